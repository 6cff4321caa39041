/- What the proof of the law needs, trimmed and merged by wip/pack.py out of the texts YtingjpcgehgiiaaPrx30, YtingjpcgehgiiaaWalkCurveBack, YtingjpcgehgiiaaRowCurveBack. No condition. -/
import Derived.Test.YtingjpcgehgiiaaRows
import Derived.WalkKit
import Derived.ProofKit
import Derived.OpenShut
import Derived.ShutString
import Derived.ChangeOld
import Derived.Below
import Derived.SizedLaws
import Derived.Test.YtingjpcgehgiiaaKCurveBack0
import Derived.Test.YtingjpcgehgiiaaKCurveBack1
import Derived.Test.YtingjpcgehgiiaaKCurveBack2
import Derived.Test.YtingjpcgehgiiaaKCurveBack3
section
namespace Go.Proofs.Ytingjpcgehgiiaa.Pr
open Go.RowKit Go.Proofs.YtingjpcgehgiiaaW.PrintWords Go.Proofs.YtingjpcgehgiiaaW.PrintLast Go.Proofs.YtingjpcgehgiiaaW.PrintMore
attribute [local go_sem] max2_int min2_int max_two min_two max_three min_three max_four min_four   -- for this text's walks alone
set_option linter.unusedVariables false
set_option linter.unusedSimpArgs false
mutual
def kimberlitelaw03_CurveBack.j0 : Nat → Int → Int → Int → Bool → Int → Int → List Int → Int → Int → List Int → Option (Bool)
 | 0, _, _, _, _, _, _, _, _, _, _ => none
 | k + 1, x1, x2, x3, x31, x581000, x581001, x581002, x588000, x588001, x588002 => if x31 = true then ((kimberlitelaw03_alive.f).bind fun t589 => (some t589)) else (kimberlitelaw03_CurveBack.l0 k x1 x2 x3 0 x581000 x581001 x581002 x588000 x588001 x588002)
def kimberlitelaw03_CurveBack.l0 : Nat → Int → Int → Int → Int → Int → Int → List Int → Int → Int → List Int → Option (Bool)
 | 0, _, _, _, _, _, _, _, _, _, _ => none
 | k + 1, x1, x2, x3, x11, x581000, x581001, x581002, x588000, x588001, x588002 => if x11 < (x581002.length : Int) then (if 0 ≤ x11 then (if (rd x581002 x11) < x1 then (kimberlitelaw03_CurveBack.j2 k x1 x2 x3 x11 true x581000 x581001 x581002 x588000 x588001 x588002) else (kimberlitelaw03_CurveBack.j2 k x1 x2 x3 x11 (decide ((rd x581002 x11) > x2)) x581000 x581001 x581002 x588000 x588001 x588002)) else (none)) else ((kimberlitelaw03_at.f x581000 x581001 x581002 x3).bind fun bt593 => (if bt593.2 = true then ((kimberlitelaw03_at.f x588000 x588001 x588002 x1).bind fun bt596 => (kimberlitelaw03_CurveBack.l1 k x2 x3 bt593.1 bt596.2 (wrap64 ((wrap64 (x1 * x3)) - bt596.1)) x1 x588000 x588001 x588002)) else ((kimberlitelaw03_alive.f).bind fun t595 => (some t595))))
def kimberlitelaw03_CurveBack.j2 : Nat → Int → Int → Int → Int → Bool → Int → Int → List Int → Int → Int → List Int → Option (Bool)
 | 0, _, _, _, _, _, _, _, _, _, _, _ => none
 | k + 1, x1, x2, x3, x11, x55, x581000, x581001, x581002, x588000, x588001, x588002 => if x55 = true then ((kimberlitelaw03_alive.f).bind fun t592 => (some t592)) else (kimberlitelaw03_CurveBack.l0 k x1 x2 x3 (wrap64 (x11 + 1)) x581000 x581001 x581002 x588000 x588001 x588002)
def kimberlitelaw03_CurveBack.l1 : Nat → Int → Int → Int → Bool → Int → Int → Int → Int → List Int → Option (Bool)
 | 0, _, _, _, _, _, _, _, _, _ => none
 | k + 1, x2, x3, x12, x15, x16, x17, x588000, x588001, x588002 => if x17 ≤ x2 then (kimberlitelaw03_CurveBack.j4 k x2 x3 x12 x15 x16 x17 x15 x588000 x588001 x588002) else (kimberlitelaw03_CurveBack.j4 k x2 x3 x12 x15 x16 x17 false x588000 x588001 x588002)
def kimberlitelaw03_CurveBack.j4 : Nat → Int → Int → Int → Bool → Int → Int → Bool → Int → Int → List Int → Option (Bool)
 | 0, _, _, _, _, _, _, _, _, _, _ => none
 | k + 1, x2, x3, x12, x15, x16, x17, x83, x588000, x588001, x588002 => if x83 = true then ((kimberlitelaw03_at.f x588000 x588001 x588002 x17).bind fun bt598 => (kimberlitelaw03_CurveBack.l1 k x2 x3 x12 bt598.2 (mx x16 (wrap64 ((wrap64 (x17 * x3)) - bt598.1))) (wrap64 (x17 + 1)) x588000 x588001 x588002)) else (if x15 = true then (if x16 = x12 then ((kimberlitelaw03_alive.f).bind fun t600 => (some t600)) else (some false)) else (some false))
end
def kimberlitelaw03_CurveBack.f (k : Nat) (a0_0 : Int) (a0_1 : Int) (l0_2 : List Int) (a1 : Int) (a2 : Int) (a3 : Int) : Option (Bool) := (curve_Conj.f k a0_0 a0_1 l0_2 a1 a2).bind fun bt581 => (if bt581.2.2.2 = 0 then ((curve_Valid.f a0_0 a0_1 l0_2).bind fun t588 => (kimberlitelaw03_CurveBack.j0 k a1 a2 a3 (!t588) a0_0 a0_1 l0_2 bt581.1 bt581.2.1 bt581.2.2.1)) else (kimberlitelaw03_CurveBack.j0 k a1 a2 a3 true a0_0 a0_1 l0_2 bt581.1 bt581.2.1 bt581.2.2.1))
theorem kimberlitelaw03_CurveBack.mono_l : ∀ k, (∀ y0 y1 y2 y3 y4 y5 y6 y7 y8 y9, LeO (kimberlitelaw03_CurveBack.j0 k y0 y1 y2 y3 y4 y5 y6 y7 y8 y9) (kimberlitelaw03_CurveBack.j0 (k + 1) y0 y1 y2 y3 y4 y5 y6 y7 y8 y9)) ∧ (∀ y0 y1 y2 y3 y4 y5 y6 y7 y8 y9, LeO (kimberlitelaw03_CurveBack.l0 k y0 y1 y2 y3 y4 y5 y6 y7 y8 y9) (kimberlitelaw03_CurveBack.l0 (k + 1) y0 y1 y2 y3 y4 y5 y6 y7 y8 y9)) ∧ (∀ y0 y1 y2 y3 y4 y5 y6 y7 y8 y9 y10, LeO (kimberlitelaw03_CurveBack.j2 k y0 y1 y2 y3 y4 y5 y6 y7 y8 y9 y10) (kimberlitelaw03_CurveBack.j2 (k + 1) y0 y1 y2 y3 y4 y5 y6 y7 y8 y9 y10)) ∧ (∀ y0 y1 y2 y3 y4 y5 y6 y7 y8, LeO (kimberlitelaw03_CurveBack.l1 k y0 y1 y2 y3 y4 y5 y6 y7 y8) (kimberlitelaw03_CurveBack.l1 (k + 1) y0 y1 y2 y3 y4 y5 y6 y7 y8)) ∧ (∀ y0 y1 y2 y3 y4 y5 y6 y7 y8 y9, LeO (kimberlitelaw03_CurveBack.j4 k y0 y1 y2 y3 y4 y5 y6 y7 y8 y9) (kimberlitelaw03_CurveBack.j4 (k + 1) y0 y1 y2 y3 y4 y5 y6 y7 y8 y9))
 | 0 => ⟨fun _ _ _ _ _ _ _ _ _ _ r h => by simp [kimberlitelaw03_CurveBack.j0] at h, fun _ _ _ _ _ _ _ _ _ _ r h => by simp [kimberlitelaw03_CurveBack.l0] at h, fun _ _ _ _ _ _ _ _ _ _ _ r h => by simp [kimberlitelaw03_CurveBack.j2] at h, fun _ _ _ _ _ _ _ _ _ r h => by simp [kimberlitelaw03_CurveBack.l1] at h, fun _ _ _ _ _ _ _ _ _ _ r h => by simp [kimberlitelaw03_CurveBack.j4] at h⟩
 | k + 1 => by
  obtain ⟨ih0, ih1, ih2, ih3, ih4⟩ := kimberlitelaw03_CurveBack.mono_l k
  refine ⟨?_, ?_, ?_, ?_, ?_⟩
  · intro y0 y1 y2 y3 y4 y5 y6 y7 y8 y9
    unfold kimberlitelaw03_CurveBack.j0
    repeat' first
    | (with_reducible exact ih0 _ _ _ _ _ _ _ _ _ _)
    | (with_reducible exact ih1 _ _ _ _ _ _ _ _ _ _)
    | (with_reducible exact ih2 _ _ _ _ _ _ _ _ _ _ _)
    | (with_reducible exact ih3 _ _ _ _ _ _ _ _ _)
    | (with_reducible exact ih4 _ _ _ _ _ _ _ _ _ _)
    | (with_reducible exact curve_Conj.mono _ _ _ _ _ _)
    | (with_reducible exact LeO.refl _)
    | (with_reducible exact LeO.none _)
    | (with_reducible refine LeO.ite ?_ ?_)
    | (with_reducible refine LeO.bind ?_ (fun _ => ?_))
    | exact ih0 _ _ _ _ _ _ _ _ _ _
    | exact ih1 _ _ _ _ _ _ _ _ _ _
    | exact ih2 _ _ _ _ _ _ _ _ _ _ _
    | exact ih3 _ _ _ _ _ _ _ _ _
    | exact ih4 _ _ _ _ _ _ _ _ _ _
    | exact curve_Conj.mono _ _ _ _ _ _
    | exact LeO.none _
    | refine LeO.ite ?_ ?_
    | refine LeO.bind ?_ (fun _ => ?_)
  · intro y0 y1 y2 y3 y4 y5 y6 y7 y8 y9
    unfold kimberlitelaw03_CurveBack.l0
    repeat' first
    | (with_reducible exact ih0 _ _ _ _ _ _ _ _ _ _)
    | (with_reducible exact ih1 _ _ _ _ _ _ _ _ _ _)
    | (with_reducible exact ih2 _ _ _ _ _ _ _ _ _ _ _)
    | (with_reducible exact ih3 _ _ _ _ _ _ _ _ _)
    | (with_reducible exact ih4 _ _ _ _ _ _ _ _ _ _)
    | (with_reducible exact curve_Conj.mono _ _ _ _ _ _)
    | (with_reducible exact LeO.refl _)
    | (with_reducible exact LeO.none _)
    | (with_reducible refine LeO.ite ?_ ?_)
    | (with_reducible refine LeO.bind ?_ (fun _ => ?_))
    | exact ih0 _ _ _ _ _ _ _ _ _ _
    | exact ih1 _ _ _ _ _ _ _ _ _ _
    | exact ih2 _ _ _ _ _ _ _ _ _ _ _
    | exact ih3 _ _ _ _ _ _ _ _ _
    | exact ih4 _ _ _ _ _ _ _ _ _ _
    | exact curve_Conj.mono _ _ _ _ _ _
    | exact LeO.none _
    | refine LeO.ite ?_ ?_
    | refine LeO.bind ?_ (fun _ => ?_)
  · intro y0 y1 y2 y3 y4 y5 y6 y7 y8 y9 y10
    unfold kimberlitelaw03_CurveBack.j2
    repeat' first
    | (with_reducible exact ih0 _ _ _ _ _ _ _ _ _ _)
    | (with_reducible exact ih1 _ _ _ _ _ _ _ _ _ _)
    | (with_reducible exact ih2 _ _ _ _ _ _ _ _ _ _ _)
    | (with_reducible exact ih3 _ _ _ _ _ _ _ _ _)
    | (with_reducible exact ih4 _ _ _ _ _ _ _ _ _ _)
    | (with_reducible exact curve_Conj.mono _ _ _ _ _ _)
    | (with_reducible exact LeO.refl _)
    | (with_reducible exact LeO.none _)
    | (with_reducible refine LeO.ite ?_ ?_)
    | (with_reducible refine LeO.bind ?_ (fun _ => ?_))
    | exact ih0 _ _ _ _ _ _ _ _ _ _
    | exact ih1 _ _ _ _ _ _ _ _ _ _
    | exact ih2 _ _ _ _ _ _ _ _ _ _ _
    | exact ih3 _ _ _ _ _ _ _ _ _
    | exact ih4 _ _ _ _ _ _ _ _ _ _
    | exact curve_Conj.mono _ _ _ _ _ _
    | exact LeO.none _
    | refine LeO.ite ?_ ?_
    | refine LeO.bind ?_ (fun _ => ?_)
  · intro y0 y1 y2 y3 y4 y5 y6 y7 y8
    unfold kimberlitelaw03_CurveBack.l1
    repeat' first
    | (with_reducible exact ih0 _ _ _ _ _ _ _ _ _ _)
    | (with_reducible exact ih1 _ _ _ _ _ _ _ _ _ _)
    | (with_reducible exact ih2 _ _ _ _ _ _ _ _ _ _ _)
    | (with_reducible exact ih3 _ _ _ _ _ _ _ _ _)
    | (with_reducible exact ih4 _ _ _ _ _ _ _ _ _ _)
    | (with_reducible exact curve_Conj.mono _ _ _ _ _ _)
    | (with_reducible exact LeO.refl _)
    | (with_reducible exact LeO.none _)
    | (with_reducible refine LeO.ite ?_ ?_)
    | (with_reducible refine LeO.bind ?_ (fun _ => ?_))
    | exact ih0 _ _ _ _ _ _ _ _ _ _
    | exact ih1 _ _ _ _ _ _ _ _ _ _
    | exact ih2 _ _ _ _ _ _ _ _ _ _ _
    | exact ih3 _ _ _ _ _ _ _ _ _
    | exact ih4 _ _ _ _ _ _ _ _ _ _
    | exact curve_Conj.mono _ _ _ _ _ _
    | exact LeO.none _
    | refine LeO.ite ?_ ?_
    | refine LeO.bind ?_ (fun _ => ?_)
  · intro y0 y1 y2 y3 y4 y5 y6 y7 y8 y9
    unfold kimberlitelaw03_CurveBack.j4
    repeat' first
    | (with_reducible exact ih0 _ _ _ _ _ _ _ _ _ _)
    | (with_reducible exact ih1 _ _ _ _ _ _ _ _ _ _)
    | (with_reducible exact ih2 _ _ _ _ _ _ _ _ _ _ _)
    | (with_reducible exact ih3 _ _ _ _ _ _ _ _ _)
    | (with_reducible exact ih4 _ _ _ _ _ _ _ _ _ _)
    | (with_reducible exact curve_Conj.mono _ _ _ _ _ _)
    | (with_reducible exact LeO.refl _)
    | (with_reducible exact LeO.none _)
    | (with_reducible refine LeO.ite ?_ ?_)
    | (with_reducible refine LeO.bind ?_ (fun _ => ?_))
    | exact ih0 _ _ _ _ _ _ _ _ _ _
    | exact ih1 _ _ _ _ _ _ _ _ _ _
    | exact ih2 _ _ _ _ _ _ _ _ _ _ _
    | exact ih3 _ _ _ _ _ _ _ _ _
    | exact ih4 _ _ _ _ _ _ _ _ _ _
    | exact curve_Conj.mono _ _ _ _ _ _
    | exact LeO.none _
    | refine LeO.ite ?_ ?_
    | refine LeO.bind ?_ (fun _ => ?_)
theorem kimberlitelaw03_CurveBack.mono : ∀ a0 a1 a2 a3 a4 a5 k, LeO (kimberlitelaw03_CurveBack.f k a0 a1 a2 a3 a4 a5) (kimberlitelaw03_CurveBack.f (k + 1) a0 a1 a2 a3 a4 a5) := by
 intro a0 a1 a2 a3 a4 a5 k
 obtain ⟨ih0, ih1, ih2, ih3, ih4⟩ := kimberlitelaw03_CurveBack.mono_l k
 unfold kimberlitelaw03_CurveBack.f
 repeat' first
  | (with_reducible exact ih0 _ _ _ _ _ _ _ _ _ _)
  | (with_reducible exact ih1 _ _ _ _ _ _ _ _ _ _)
  | (with_reducible exact ih2 _ _ _ _ _ _ _ _ _ _ _)
  | (with_reducible exact ih3 _ _ _ _ _ _ _ _ _)
  | (with_reducible exact ih4 _ _ _ _ _ _ _ _ _ _)
  | (with_reducible exact curve_Conj.mono _ _ _ _ _ _)
  | (with_reducible exact LeO.refl _)
  | (with_reducible exact LeO.none _)
  | (with_reducible refine LeO.ite ?_ ?_)
  | (with_reducible refine LeO.bind ?_ (fun _ => ?_))
  | exact ih0 _ _ _ _ _ _ _ _ _ _
  | exact ih1 _ _ _ _ _ _ _ _ _ _
  | exact ih2 _ _ _ _ _ _ _ _ _ _ _
  | exact ih3 _ _ _ _ _ _ _ _ _
  | exact ih4 _ _ _ _ _ _ _ _ _ _
  | exact curve_Conj.mono _ _ _ _ _ _
  | exact LeO.none _
  | refine LeO.ite ?_ ?_
  | refine LeO.bind ?_ (fun _ => ?_)
set_option maxHeartbeats 8000000 in
set_option maxRecDepth 100000 in
theorem kimberlitelaw03_CurveBack.calls (k : Nat) (a0_0 : Int) (a0_1 : Int) (A0_2 : Option Addr) (c0_2 : Nat) (l0_2 : List Int) (a1 : Int) (a2 : Int) (a3 : Int) (r : Bool) (w : World) (hr0_2 : Kd.C (Kd.int .i64) w A0_2 l0_2.length l0_2) (hc0_2 : l0_2.length ≤ c0_2) (h : kimberlitelaw03_CurveBack.f k a0_0 a0_1 l0_2 a1 a2 a3 = some r) :
 Calls Try.prog 10 #[.agg #[.int .i64 a0_0, .int .i64 a0_1, .slice A0_2 l0_2.length c0_2], .int .i64 a1, .int .i64 a2, .int .i64 a3] w fun e w' => e = .returned (.bool r) ∧ Below w.heap.size w w' := by
 have hu24 := Try.underlying24
 have HR0_2 := Aside0.mk hr0_2
 have HC0_2 := Aside0.mk hc0_2
 clear hr0_2 hc0_2
 have HB := Aside0.mk (Below.refl w.heap.size w)
 have H : ((curve_Conj.f k a0_0 a0_1 l0_2 a1 a2).bind fun bt581 => (if bt581.2.2.2 = 0 then ((curve_Valid.f a0_0 a0_1 l0_2).bind fun t588 => (kimberlitelaw03_CurveBack.j0 k a1 a2 a3 (!t588) a0_0 a0_1 l0_2 bt581.1 bt581.2.1 bt581.2.2.1)) else (kimberlitelaw03_CurveBack.j0 k a1 a2 a3 true a0_0 a0_1 l0_2 bt581.1 bt581.2.1 bt581.2.2.1))) = some r := h
 clear h
 replace H := Option.bind_eq_some_iff.mp H
 obtain ⟨⟨t581, t582, t583, t586⟩, A50, H⟩ := H
 replace H : (if t586 = 0 then ((curve_Valid.f a0_0 a0_1 l0_2).bind fun t588 => (kimberlitelaw03_CurveBack.j0 k a1 a2 a3 (!t588) a0_0 a0_1 l0_2 t581 t582 t583)) else (kimberlitelaw03_CurveBack.j0 k a1 a2 a3 true a0_0 a0_1 l0_2 t581 t582 t583)) = some r := H
 have A5 := Aside0.mk A50
 clear A50
 have HC6 := Aside0.mk H
 clear H
 go_enter Try.func10, Try.ntmps10
 go_upto_region 2 with (first | ((with_reducible refine gate_dst (N := 4) rfl ?_); refine box_event ?hg (N := 4) ?hd (cs := #[.int .i64 a0_0, .int .i64 a0_1, .slice A0_2 l0_2.length c0_2]) (t := 24) ?hr ?_; (case hd => rfl); (case hg => rfl); (case hr => first | (go_simp; done) | (go_simp; rfl)); intro gb580 hg w7 hbox hb; have n0_ := Aside0.mk (below_step (by repeat (first | (with_reducible first | exact HB.out | apply below_alloc | apply pw_below_drewN | apply below_drew1) | exact HB.out)) hb); have n1_ := Aside0.mk (hbox); have n2_ := Aside0.mk ((by rw [hg]; exact (below_size (by repeat (first | (with_reducible first | exact HB.out | apply below_alloc | apply pw_below_drewN | apply below_drew1) | exact HB.out))) : w.heap.size ≤ gb580)); have n3_ := Aside0.mk ((by rw [hg]; exact (below_size (by repeat (first | (with_reducible first | exact HB.out | apply below_alloc | apply pw_below_drewN | apply below_drew1) | exact HB.out))) : w.heap.size ≤ gb580)); clear HB; have HB := n0_; have BK580 := n1_; have GW580 := n2_; have GE580 := n3_; clear n0_ n1_ n2_ n3_; clear hb hbox hg; have hcz8_0 : w7.cell? ⟨gb580, 0, none⟩ = some (.int .i64 a0_0) := (blk_cell BK580.out 0).trans rfl; have hcz8_1 : w7.cell? ⟨gb580, 1, none⟩ = some (.int .i64 a0_1) := (blk_cell BK580.out 1).trans rfl; have hcz8_2 : w7.cell? ⟨gb580, 2, none⟩ = some (.slice A0_2 l0_2.length c0_2) := (blk_cell BK580.out 2).trans rfl; have hfz8_0 := blk_frozen BK580.out 0; have hfz8_1 := blk_frozen BK580.out 1; have hfz8_2 := blk_frozen BK580.out 2) | ((with_reducible refine gate_callee (f := 36) rfl ?_); refine goesL_ (some 22) rfl rfl Try.func36 (by kernel_rfl) rfl #[.agg #[.int .i64 a0_0, .int .i64 a0_1, .slice A0_2 l0_2.length c0_2], .int .i64 a1, .int .i64 a2] rfl (by (try simp only [List.map_toArray, List.map_cons, List.map_nil]); first | done | rfl | (simp only [List.length_drop, List.length_take]; rfl)) ?_; (with_reducible refine (curve_Conj.calls k a0_0 a0_1 _ _ l0_2 a1 a2 t581 t582 t583 t586 _ ?side1 ?side2 A5.out).mono ?_); (case side1 => repeat (first | exact (Kd.C_below HR0_2.out HB.out) | (with_reducible refine Kd.C_alloc ?_ _) | (with_reducible refine Kd.C_drewN ?_ _) | (with_reducible refine Kd.C_drew ?_))); (case side2 => exact HC0_2.out); rintro e w9 ⟨v584, rfl, ho0, hb⟩; refine ⟨_, rfl, ?_⟩; have n0_ := Aside0.mk (Kd.R_lower ho0 (below_size (by repeat (first | (with_reducible first | exact HB.out | apply below_alloc | apply pw_below_drewN | apply below_drew1 | refine below_set ?_ GE580.out) | exact HB.out)))); have n1_ := Aside0.mk (blk_below (g := gb580) (o := .cells #[.int .i64 a0_0, .int .i64 a0_1, .slice A0_2 l0_2.length c0_2] 24 (0, 0)) (by (with_reducible repeat (first | refine blk_drewN ?_ _ | refine blk_drew ?_ | refine blk_alloc ?_ _)); exact BK580.out) hb); have n2_ := Aside0.mk (below_step (by repeat (first | (with_reducible first | exact HB.out | apply below_alloc | apply pw_below_drewN | apply below_drew1 | refine below_set ?_ GE580.out) | exact HB.out)) hb); clear BK580; clear HB; have HO585 := n0_; have BK580 := n1_; have HB := n2_; clear n0_ n1_ n2_; (try clear hb); (try clear hb2); (try clear hk); (try clear hi); (try clear ho0)) | ((with_reducible refine gate_dst (N := 9) rfl ?_); refine box_event ?hg (N := 9) ?hd (cs := #[.int .i64 0, .int .i64 0, .slice none 0 0]) (t := 24) ?hr ?_; (case hd => rfl); (case hg => rfl); (case hr => first | (go_simp; done) | (go_simp; rfl)); intro gb587 hg w10 hbox hb; have n0_ := Aside0.mk (Kd.R_below (by (with_reducible repeat (first | apply Kd.R_alloc | apply Kd.R_drewN | apply Kd.R_drew)); exact HO585.out) hb); have n1_ := Aside0.mk (blk_below (g := gb580) (o := .cells #[.int .i64 a0_0, .int .i64 a0_1, .slice A0_2 l0_2.length c0_2] 24 (0, 0)) (by (with_reducible repeat (first | refine blk_drewN ?_ _ | refine blk_drew ?_ | refine blk_alloc ?_ _)); exact BK580.out) hb); have n2_ := Aside0.mk (below_step (by repeat (first | (with_reducible first | exact HB.out | apply below_alloc | apply pw_below_drewN | apply below_drew1 | refine below_set ?_ GE580.out) | exact HB.out)) hb); have n3_ := Aside0.mk (hbox); have n4_ := Aside0.mk ((by rw [hg]; exact (below_size (by repeat (first | (with_reducible first | exact HB.out | apply below_alloc | apply pw_below_drewN | apply below_drew1 | refine below_set ?_ GE580.out) | exact HB.out))) : w.heap.size ≤ gb587)); have n5_ := Aside0.mk ((by rw [hg]; exact (below_size (by repeat (first | (with_reducible first | exact HB.out | apply below_alloc | apply pw_below_drewN | apply below_drew1 | refine below_set ?_ GE580.out) | exact HB.out))) : w.heap.size ≤ gb587)); have n6_ := Aside0.mk ((by rw [hg]; exact Nat.ne_of_lt (blk_lt (g := gb580) (o := .cells #[.int .i64 a0_0, .int .i64 a0_1, .slice A0_2 l0_2.length c0_2] 24 (0, 0)) (by (with_reducible repeat (first | refine blk_drewN ?_ _ | refine blk_drew ?_ | refine blk_alloc ?_ _)); exact BK580.out)) : gb580 ≠ gb587)); have n7_ := Aside0.mk ((by rw [hg]; exact Nat.ne_of_gt (blk_lt (g := gb580) (o := .cells #[.int .i64 a0_0, .int .i64 a0_1, .slice A0_2 l0_2.length c0_2] 24 (0, 0)) (by (with_reducible repeat (first | refine blk_drewN ?_ _ | refine blk_drew ?_ | refine blk_alloc ?_ _)); exact BK580.out)) : gb587 ≠ gb580)); clear HO585; clear BK580; clear HB; have HO585 := n0_; have BK580 := n1_; have HB := n2_; have BK587 := n3_; have GW587 := n4_; have GE587 := n5_; have NB580_587 := n6_; have NB587_580 := n7_; clear n0_ n1_ n2_ n3_ n4_ n5_ n6_ n7_; clear hb hbox hg; have hnb11 := NB587_580.out; have hnc11 := NB580_587.out; have hcz12_0 : w10.cell? ⟨gb587, 0, none⟩ = some (.int .i64 0) := (blk_cell BK587.out 0).trans rfl; have hcz12_1 : w10.cell? ⟨gb587, 1, none⟩ = some (.int .i64 0) := (blk_cell BK587.out 1).trans rfl; have hcz12_2 : w10.cell? ⟨gb587, 2, none⟩ = some (.slice none 0 0) := (blk_cell BK587.out 2).trans rfl; have hfz12_0 := blk_frozen BK587.out 0; have hfz12_1 := blk_frozen BK587.out 1; have hfz12_2 := blk_frozen BK587.out 2; obtain ⟨Ao13, co13, eo13⟩ := Kd.R_slice HO585.out; subst eo13))
 (try simp only [Act.put, List.setIfInBounds_toArray, List.set_cons_zero, List.set_cons_succ])
 go_cut [31] (fun v31 wc => ∃ (kq : Nat) (x31_5 : Bool), v31 = .bool x31_5 ∧ Aside0 (kimberlitelaw03_CurveBack.j0 kq a1 a2 a3 x31_5 a0_0 a0_1 l0_2 t581 t582 t583 = some r) ∧ Aside0 (kq ≤ k) ∧ Aside0 (Kd.R (Kd.int .i64) 3 wc w.heap.size (fun _ => True) (.slice Ao13 t583.length co13) t583) ∧ Aside0 (wc.heap[gb580]? = some (.cells #[.int .i64 a0_0, .int .i64 a0_1, (.slice A0_2 l0_2.length c0_2)] 24 (0, 0))) ∧ Aside0 (wc.heap[gb587]? = some (.cells #[.int .i64 t581, .int .i64 t582, (.slice Ao13 t583.length co13)] 24 (0, 0))) ∧ Aside0 (Below w.heap.size w wc))
 case first =>
  have H := HC6.out
  clear HC6
  by_cases c14 : t586 = 0
  · rw [if_pos c14] at H
    have c14b0 : (t586 == 0) = true := beq_iff_eq.mpr c14
    have c14b1 : (t586 != 0) = false := bne_eq_false_iff_eq.mpr c14
    clear c14
    (first | rw [c14b0] | (simp only [i64_w, i32_w]; rw [c14b0]) | skip)
    replace H := Option.bind_eq_some_iff.mp H
    obtain ⟨t588, A150, H⟩ := H
    replace H : (kimberlitelaw03_CurveBack.j0 k a1 a2 a3 (!t588) a0_0 a0_1 l0_2 t581 t582 t583) = some r := H
    have A15 := Aside0.mk A150
    clear A150
    have H' := Aside0.mk H
    clear H
    have hnb16 := NB580_587.out
    have hnc16 := NB587_580.out
    have hcz17_0 : w10.cell? ⟨gb580, 0, none⟩ = some (.int .i64 a0_0) := (blk_cell BK580.out 0).trans rfl
    have hcz17_1 : w10.cell? ⟨gb580, 1, none⟩ = some (.int .i64 a0_1) := (blk_cell BK580.out 1).trans rfl
    have hcz17_2 : w10.cell? ⟨gb580, 2, none⟩ = some (.slice A0_2 l0_2.length c0_2) := (blk_cell BK580.out 2).trans rfl
    have hfz17_0 := blk_frozen BK580.out 0
    have hfz17_1 := blk_frozen BK580.out 1
    have hfz17_2 := blk_frozen BK580.out 2
    go_wp2_with (first | (go_at_call 16; (with_reducible refine (curve_Valid.calls a0_0 a0_1 _ _ l0_2 t588 _ ?side1 ?side2 A15.out).mono ?_); (case side1 => exact Kd.C_below HR0_2.out (by repeat (first | (with_reducible first | exact HB.out | apply below_alloc | apply pw_below_drewN | apply below_drew1 | refine below_set ?_ GE580.out | refine below_set ?_ GE587.out) | exact HB.out))); (case side2 => exact HC0_2.out); rintro e w18 ⟨rfl, hb⟩; have n0_ := Aside0.mk (Kd.R_below (by (with_reducible repeat (first | apply Kd.R_alloc | apply Kd.R_drewN | apply Kd.R_drew)); exact (Kd.R_mono (Kd.R_far (p := ⟨gb587, 2, none⟩) (Kd.R_far (p := ⟨gb587, 1, none⟩) (Kd.R_far (p := ⟨gb587, 0, none⟩) (Kd.R_types HO585.out BK587.out (by decide)) (fun _ hk => hk.2) (.int .i64 t581)) (fun _ hk => hk.2) (.int .i64 t582)) (fun _ hk => hk.2) (.slice Ao13 t583.length co13)) (fun _ h_ => h_.1))) hb); have n1_ := Aside0.mk (blk_below (g := gb580) (o := .cells #[.int .i64 a0_0, .int .i64 a0_1, .slice A0_2 l0_2.length c0_2] 24 (0, 0)) (by (with_reducible repeat (first | refine blk_drewN ?_ _ | refine blk_drew ?_ | refine blk_alloc ?_ _)); refine blk_far ?_ NB580_587.out _; (with_reducible repeat (first | refine blk_drewN ?_ _ | refine blk_drew ?_ | refine blk_alloc ?_ _)); refine blk_far ?_ NB580_587.out _; (with_reducible repeat (first | refine blk_drewN ?_ _ | refine blk_drew ?_ | refine blk_alloc ?_ _)); refine blk_far ?_ NB580_587.out _; (with_reducible repeat (first | refine blk_drewN ?_ _ | refine blk_drew ?_ | refine blk_alloc ?_ _)); exact BK580.out) hb); have n2_ := Aside0.mk (blk_below (g := gb587) (o := .cells #[.int .i64 t581, .int .i64 t582, .slice Ao13 t583.length co13] 24 (0, 0)) (by (with_reducible repeat (first | refine blk_drewN ?_ _ | refine blk_drew ?_ | refine blk_alloc ?_ _)); refine blk_put (cs := #[.int .i64 t581, .int .i64 t582, .slice none 0 0]) ?_ 2 _ rfl; (with_reducible repeat (first | refine blk_drewN ?_ _ | refine blk_drew ?_ | refine blk_alloc ?_ _)); refine blk_put (cs := #[.int .i64 t581, .int .i64 0, .slice none 0 0]) ?_ 1 _ rfl; (with_reducible repeat (first | refine blk_drewN ?_ _ | refine blk_drew ?_ | refine blk_alloc ?_ _)); refine blk_put (cs := #[.int .i64 0, .int .i64 0, .slice none 0 0]) ?_ 0 _ rfl; (with_reducible repeat (first | refine blk_drewN ?_ _ | refine blk_drew ?_ | refine blk_alloc ?_ _)); exact BK587.out) hb); have n3_ := Aside0.mk (below_step (by repeat (first | (with_reducible first | exact HB.out | apply below_alloc | apply pw_below_drewN | apply below_drew1 | refine below_set ?_ GE580.out | refine below_set ?_ GE587.out) | exact HB.out)) hb); clear HO585; clear BK580; clear BK587; clear HB; have HO585 := n0_; have BK580 := n1_; have BK587 := n2_; have HB := n3_; clear n0_ n1_ n2_ n3_; (try clear hb); (try clear hb2); (try clear hk); (try clear hi)))
    go_meet
    case rel => exact ⟨_, (!t588), (by first | rfl | (simp; done) | (simp [*]; done)), H', ⟨by first | omega | exact Nat.le_refl _⟩, ⟨by (with_reducible repeat (first | apply Kd.R_alloc | apply Kd.R_drewN | apply Kd.R_drew)); exact HO585.out⟩, ⟨by (with_reducible repeat (first | refine blk_drewN ?_ _ | refine blk_drew ?_ | refine blk_alloc ?_ _)); exact BK580.out⟩, ⟨by (with_reducible repeat (first | refine blk_drewN ?_ _ | refine blk_drew ?_ | refine blk_alloc ?_ _)); exact BK587.out⟩, ⟨by repeat (first | (with_reducible first | exact HB.out | apply below_alloc | apply pw_below_drewN | apply below_drew1 | refine below_set ?_ GE580.out | refine below_set ?_ GE587.out) | exact HB.out)⟩⟩
  · rw [if_neg c14] at H
    have c14b0 : (t586 == 0) = false := beq_eq_false_iff_ne.mpr c14
    have c14b1 : (t586 != 0) = true := bne_iff_ne.mpr c14
    (first | rw [c14b0] | (simp only [i64_w, i32_w]; rw [c14b0]) | skip)
    have H' := Aside0.mk H
    clear H
    go_wp2
    go_meet
    case rel => exact ⟨_, (true), (by first | rfl | (simp; done) | (simp [*]; done)), H', ⟨by first | omega | exact Nat.le_refl _⟩, ⟨by (with_reducible repeat (first | apply Kd.R_alloc | apply Kd.R_drewN | apply Kd.R_drew)); exact Kd.R_mono (Kd.R_far (p := ⟨gb587, 2, none⟩) (Kd.R_far (p := ⟨gb587, 1, none⟩) (Kd.R_far (p := ⟨gb587, 0, none⟩) (Kd.R_types HO585.out BK587.out (by decide)) (fun _ hk => hk.2) (.int .i64 t581)) (fun _ hk => hk.2) (.int .i64 t582)) (fun _ hk => hk.2) (.slice Ao13 t583.length co13)) (fun _ hk => trivial)⟩, ⟨by (with_reducible repeat (first | refine blk_drewN ?_ _ | refine blk_drew ?_ | refine blk_alloc ?_ _)); refine blk_far ?_ NB580_587.out _; (with_reducible repeat (first | refine blk_drewN ?_ _ | refine blk_drew ?_ | refine blk_alloc ?_ _)); refine blk_far ?_ NB580_587.out _; (with_reducible repeat (first | refine blk_drewN ?_ _ | refine blk_drew ?_ | refine blk_alloc ?_ _)); refine blk_far ?_ NB580_587.out _; (with_reducible repeat (first | refine blk_drewN ?_ _ | refine blk_drew ?_ | refine blk_alloc ?_ _)); exact BK580.out⟩, ⟨by (with_reducible repeat (first | refine blk_drewN ?_ _ | refine blk_drew ?_ | refine blk_alloc ?_ _)); refine blk_put (cs := #[.int .i64 t581, .int .i64 t582, .slice none 0 0]) ?_ 2 _ rfl; (with_reducible repeat (first | refine blk_drewN ?_ _ | refine blk_drew ?_ | refine blk_alloc ?_ _)); refine blk_put (cs := #[.int .i64 t581, .int .i64 0, .slice none 0 0]) ?_ 1 _ rfl; (with_reducible repeat (first | refine blk_drewN ?_ _ | refine blk_drew ?_ | refine blk_alloc ?_ _)); refine blk_put (cs := #[.int .i64 0, .int .i64 0, .slice none 0 0]) ?_ 0 _ rfl; (with_reducible repeat (first | refine blk_drewN ?_ _ | refine blk_drew ?_ | refine blk_alloc ?_ _)); exact BK587.out⟩, ⟨by repeat (first | (with_reducible first | exact HB.out | apply below_alloc | apply pw_below_drewN | apply below_drew1 | refine below_set ?_ GE580.out | refine below_set ?_ GE587.out) | exact HB.out)⟩⟩
 case rest =>
  clear HC6
  try clear c1
  try clear p2
  try clear c3
  try clear c10
  try clear c11
  try clear c14
  try clear c14b0
  try clear c14b1
  try clear c16
  try clear hcz12_0
  try clear hcz12_1
  try clear hcz12_2
  try clear hcz17_0
  try clear hcz17_1
  try clear hcz17_2
  try clear hcz8_0
  try clear hcz8_1
  try clear hcz8_2
  try clear hfz12_0
  try clear hfz12_1
  try clear hfz12_2
  try clear hfz17_0
  try clear hfz17_1
  try clear hfz17_2
  try clear hfz8_0
  try clear hfz8_1
  try clear hfz8_2
  obtain ⟨kq, x31_5, rfl, HA, HJ5, HO_588002, BK580, BK587, HB⟩ := hcut
  cases kq with
  | zero => exact absurd HA.out (by simp [kimberlitelaw03_CurveBack.j0])
  | succ kj5 =>
   have H := HA.out
   clear HA
   simp only [kimberlitelaw03_CurveBack.j0] at H
   by_cases c19 : x31_5 = true
   · subst c19
     have H1 : ((kimberlitelaw03_alive.f).bind fun t589 => (some t589)) = some r := by rw [if_pos rfl] at H; exact H
     clear H
     have H := H1
     clear H1
     replace H := Option.bind_eq_some_iff.mp H
     obtain ⟨t589, A200, H⟩ := H
     replace H : (some t589) = some r := H
     have A20 := Aside0.mk A200
     clear A200
     obtain rfl := Option.some.inj H
     go_wp2_with (first | ((with_reducible refine gate_callee (f := 17) rfl ?_); refine goesL_ (some 32) rfl rfl Try.func17 (by kernel_rfl) rfl #[] rfl (by (try simp only [List.map_toArray, List.map_cons, List.map_nil]); first | done | rfl | (simp only [List.length_drop, List.length_take]; rfl)) ?_; (with_reducible refine (kimberlitelaw03_alive.calls  t589 _ A20.out).mono ?_); rintro e w21 ⟨rfl, hb⟩; refine ⟨_, rfl, ?_⟩; have n0_ := Aside0.mk (Kd.R_below (by (with_reducible repeat (first | apply Kd.R_alloc | apply Kd.R_drewN | apply Kd.R_drew)); exact HO_588002.out) hb); have n1_ := Aside0.mk (blk_below (g := gb580) (o := .cells #[.int .i64 a0_0, .int .i64 a0_1, .slice A0_2 l0_2.length c0_2] 24 (0, 0)) (by (with_reducible repeat (first | refine blk_drewN ?_ _ | refine blk_drew ?_ | refine blk_alloc ?_ _)); exact BK580.out) hb); have n2_ := Aside0.mk (blk_below (g := gb587) (o := .cells #[.int .i64 t581, .int .i64 t582, .slice Ao13 t583.length co13] 24 (0, 0)) (by (with_reducible repeat (first | refine blk_drewN ?_ _ | refine blk_drew ?_ | refine blk_alloc ?_ _)); exact BK587.out) hb); have n3_ := Aside0.mk (below_step (by repeat (first | (with_reducible first | exact HB.out | apply below_alloc | apply pw_below_drewN | apply below_drew1 | refine below_set ?_ GE580.out | refine below_set ?_ GE587.out) | exact HB.out)) hb); clear HO_588002; clear BK580; clear BK587; clear HB; have HO_588002 := n0_; have BK580 := n1_; have BK587 := n2_; have HB := n3_; clear n0_ n1_ n2_ n3_; (try clear hb); (try clear hb2); (try clear hk); (try clear hi)))
     go_ret
     exact ⟨by first | rfl | (simp [errW_none, errW_some] <;> rfl) | (simp [*, errW_none, errW_some] <;> rfl), by repeat (first | (with_reducible first | exact HB.out | apply below_alloc | apply pw_below_drewN | apply below_drew1 | refine below_set ?_ GE580.out | refine below_set ?_ GE587.out) | exact HB.out)⟩
   · replace c19 := Bool.eq_false_iff.mpr c19
     subst c19
     have H1 : (kimberlitelaw03_CurveBack.l0 kj5 a1 a2 a3 0 a0_0 a0_1 l0_2 t581 t582 t583) = some r := by rw [if_neg (show ¬ (false = true) by decide)] at H; exact H
     clear H
     have H := H1
     clear H1
     have H' := Aside0.mk H
     clear H
     go_wp2
     go_loopg [11] kj5 (fun kq v11 w' => ∃ (x11_2 : Int), v11 = .int .i64 x11_2 ∧ Aside0 (kimberlitelaw03_CurveBack.l0 kq a1 a2 a3 x11_2 a0_0 a0_1 l0_2 t581 t582 t583 = some r) ∧ Aside0 (kq ≤ kj5) ∧ Aside0 (Kd.R (Kd.int .i64) 3 w' w.heap.size (fun _ => True) (.slice Ao13 t583.length co13) t583) ∧ Aside0 (w'.heap[gb580]? = some (.cells #[.int .i64 a0_0, .int .i64 a0_1, (.slice A0_2 l0_2.length c0_2)] 24 (0, 0))) ∧ Aside0 (w'.heap[gb587]? = some (.cells #[.int .i64 t581, .int .i64 t582, (.slice Ao13 t583.length co13)] 24 (0, 0))) ∧ Aside0 (Below w.heap.size w w'))
     case atStart => exact ⟨(0), (by first | rfl | (simp; done) | (simp [*]; done)), H', ⟨Nat.le_refl _⟩, ⟨by (with_reducible repeat (first | apply Kd.R_alloc | apply Kd.R_drewN | apply Kd.R_drew)); exact HO_588002.out⟩, ⟨by (with_reducible repeat (first | refine blk_drewN ?_ _ | refine blk_drew ?_ | refine blk_alloc ?_ _)); exact BK580.out⟩, ⟨by (with_reducible repeat (first | refine blk_drewN ?_ _ | refine blk_drew ?_ | refine blk_alloc ?_ _)); exact BK587.out⟩, ⟨by repeat (first | (with_reducible first | exact HB.out | apply below_alloc | apply pw_below_drewN | apply below_drew1 | refine below_set ?_ GE580.out | refine below_set ?_ GE587.out) | exact HB.out)⟩⟩
     case round =>
      clear H'
      try clear c1
      try clear p2
      try clear c3
      try clear c10
      try clear c11
      try clear c14
      try clear c14b0
      try clear c14b1
      try clear c16
      try clear c17
      try clear c19
      try clear hcz12_0
      try clear hcz12_1
      try clear hcz12_2
      try clear hcz17_0
      try clear hcz17_1
      try clear hcz17_2
      try clear hcz8_0
      try clear hcz8_1
      try clear hcz8_2
      try clear hfz12_0
      try clear hfz12_1
      try clear hfz12_2
      try clear hfz17_0
      try clear hfz17_1
      try clear hfz17_2
      try clear hfz8_0
      try clear hfz8_1
      try clear hfz8_2
      try clear p2
      obtain ⟨x11_2, rfl, HA, HK2, HO_588002, BK580, BK587, HB⟩ := hrel
      cases gk with
      | zero => exact absurd HA.out (by simp [kimberlitelaw03_CurveBack.l0])
      | succ k2 =>
       have H := HA.out
       clear HA
       simp only [kimberlitelaw03_CurveBack.l0] at H
       by_cases c22 : x11_2 < (l0_2.length : Int)
       · rw [if_pos c22] at H
         have c22b0 : decide (x11_2 < (l0_2.length : Int)) = true := decide_eq_true c22
         clear c22
         have HC23 := Aside0.mk H
         clear H
         have hnb24 := NB580_587.out
         have hnc24 := NB587_580.out
         have hcz25_0 : wr.cell? ⟨gb580, 0, none⟩ = some (.int .i64 a0_0) := (blk_cell BK580.out 0).trans rfl
         have hcz25_1 : wr.cell? ⟨gb580, 1, none⟩ = some (.int .i64 a0_1) := (blk_cell BK580.out 1).trans rfl
         have hcz25_2 : wr.cell? ⟨gb580, 2, none⟩ = some (.slice A0_2 l0_2.length c0_2) := (blk_cell BK580.out 2).trans rfl
         have hfz25_0 := blk_frozen BK580.out 0
         have hfz25_1 := blk_frozen BK580.out 1
         have hfz25_2 := blk_frozen BK580.out 2
         go_upto_region 7 with (fail)
         go_cut [55] (fun v55 wc => ∃ (kq : Nat) (x55_22 : Bool), v55 = .bool x55_22 ∧ Aside0 (kimberlitelaw03_CurveBack.j2 kq a1 a2 a3 x11_2 x55_22 a0_0 a0_1 l0_2 t581 t582 t583 = some r) ∧ Aside0 (kq ≤ k2) ∧ Aside0 (Kd.R (Kd.int .i64) 3 wc w.heap.size (fun _ => True) (.slice Ao13 t583.length co13) t583) ∧ Aside0 (wc.heap[gb580]? = some (.cells #[.int .i64 a0_0, .int .i64 a0_1, (.slice A0_2 l0_2.length c0_2)] 24 (0, 0))) ∧ Aside0 (wc.heap[gb587]? = some (.cells #[.int .i64 t581, .int .i64 t582, (.slice Ao13 t583.length co13)] 24 (0, 0))) ∧ Aside0 (Below w.heap.size w wc))
         case first =>
          have H := HC23.out
          clear HC23
          by_cases c26 : 0 ≤ x11_2
          · rw [if_pos c26] at H
            have c26b0 : decide (0 ≤ x11_2) = true := decide_eq_true c26
            clear c26
            (first | rw [c26b0] | (simp only [i64_w, i32_w]; rw [c26b0]) | skip)
            by_cases c27 : (rd l0_2 x11_2) < a1
            · rw [if_pos c27] at H
              have c27b0 : decide ((rd l0_2 x11_2) < a1) = true := decide_eq_true c27
              clear c27
              have H' := Aside0.mk H
              clear H
              have hnb28 := NB580_587.out
              have hnc28 := NB587_580.out
              have hcz29_0 : wr.cell? ⟨gb580, 0, none⟩ = some (.int .i64 a0_0) := (blk_cell BK580.out 0).trans rfl
              have hcz29_1 : wr.cell? ⟨gb580, 1, none⟩ = some (.int .i64 a0_1) := (blk_cell BK580.out 1).trans rfl
              have hcz29_2 : wr.cell? ⟨gb580, 2, none⟩ = some (.slice A0_2 l0_2.length c0_2) := (blk_cell BK580.out 2).trans rfl
              have hfz29_0 := blk_frozen BK580.out 0
              have hfz29_1 := blk_frozen BK580.out 1
              have hfz29_2 := blk_frozen BK580.out 2
              have p590 : 0 ≤ (x11_2 : Int) := of_decide_eq_true (by first | (with_reducible assumption) | assumption)
              have q590 : x11_2 < (l0_2.length : Int) := of_decide_eq_true (by first | (with_reducible assumption) | assumption)
              obtain ⟨ad590, e590, hx590_0⟩ := Kd.at_int HR0_2.out x11_2 p590 q590
              cases e590
              replace hx590_0 := (HB.out.cell (World.block_lt_of_cell? w _ hx590_0)).trans hx590_0
              replace p590 := eq_true p590
              replace q590 := eq_true q590
              go_wp2
              go_meet
              case rel => exact ⟨_, (true), (by first | rfl | (simp; done) | (simp [*]; done)), H', ⟨by have := HJ5.out; have := HK2.out; first | omega | exact Nat.le_refl _⟩, ⟨by (with_reducible repeat (first | apply Kd.R_alloc | apply Kd.R_drewN | apply Kd.R_drew)); exact HO_588002.out⟩, ⟨by (with_reducible repeat (first | refine blk_drewN ?_ _ | refine blk_drew ?_ | refine blk_alloc ?_ _)); exact BK580.out⟩, ⟨by (with_reducible repeat (first | refine blk_drewN ?_ _ | refine blk_drew ?_ | refine blk_alloc ?_ _)); exact BK587.out⟩, ⟨by repeat (first | (with_reducible first | exact HB.out | apply below_alloc | apply pw_below_drewN | apply below_drew1 | refine below_set ?_ GE580.out | refine below_set ?_ GE587.out) | exact HB.out)⟩⟩
            · rw [if_neg c27] at H
              have c27b0 : decide ((rd l0_2 x11_2) < a1) = false := decide_eq_false c27
              clear c27
              have H' := Aside0.mk H
              clear H
              have hnb30 := NB580_587.out
              have hnc30 := NB587_580.out
              have hcz31_0 : wr.cell? ⟨gb580, 0, none⟩ = some (.int .i64 a0_0) := (blk_cell BK580.out 0).trans rfl
              have hcz31_1 : wr.cell? ⟨gb580, 1, none⟩ = some (.int .i64 a0_1) := (blk_cell BK580.out 1).trans rfl
              have hcz31_2 : wr.cell? ⟨gb580, 2, none⟩ = some (.slice A0_2 l0_2.length c0_2) := (blk_cell BK580.out 2).trans rfl
              have hfz31_0 := blk_frozen BK580.out 0
              have hfz31_1 := blk_frozen BK580.out 1
              have hfz31_2 := blk_frozen BK580.out 2
              have p590 : 0 ≤ (x11_2 : Int) := of_decide_eq_true (by first | (with_reducible assumption) | assumption)
              have q590 : x11_2 < (l0_2.length : Int) := of_decide_eq_true (by first | (with_reducible assumption) | assumption)
              obtain ⟨ad590, e590, hx590_0⟩ := Kd.at_int HR0_2.out x11_2 p590 q590
              cases e590
              replace hx590_0 := (HB.out.cell (World.block_lt_of_cell? w _ hx590_0)).trans hx590_0
              replace p590 := eq_true p590
              replace q590 := eq_true q590
              have p591 : 0 ≤ (x11_2 : Int) := of_decide_eq_true (by first | (with_reducible assumption) | assumption)
              have q591 : x11_2 < (l0_2.length : Int) := of_decide_eq_true (by first | (with_reducible assumption) | assumption)
              obtain ⟨ad591, e591, hx591_0⟩ := Kd.at_int HR0_2.out x11_2 p591 q591
              obtain rfl : ad590 = ad591 := (by injection e591)
              replace hx591_0 := (HB.out.cell (World.block_lt_of_cell? w _ hx591_0)).trans hx591_0
              replace p591 := eq_true p591
              replace q591 := eq_true q591
              go_wp2
              go_meet
              case rel => exact ⟨_, (decide ((rd l0_2 x11_2) > a2)), (by first | rfl | (simp; done) | (simp [*]; done)), H', ⟨by have := HJ5.out; have := HK2.out; first | omega | exact Nat.le_refl _⟩, ⟨by (with_reducible repeat (first | apply Kd.R_alloc | apply Kd.R_drewN | apply Kd.R_drew)); exact HO_588002.out⟩, ⟨by (with_reducible repeat (first | refine blk_drewN ?_ _ | refine blk_drew ?_ | refine blk_alloc ?_ _)); exact BK580.out⟩, ⟨by (with_reducible repeat (first | refine blk_drewN ?_ _ | refine blk_drew ?_ | refine blk_alloc ?_ _)); exact BK587.out⟩, ⟨by repeat (first | (with_reducible first | exact HB.out | apply below_alloc | apply pw_below_drewN | apply below_drew1 | refine below_set ?_ GE580.out | refine below_set ?_ GE587.out) | exact HB.out)⟩⟩
          · rw [if_neg c26] at H
            exact absurd H (by simp)
         case rest =>
          clear HC23
          try clear c1
          try clear c2
          try clear p2
          try clear c3
          try clear p5
          try clear q5
          try clear hx5
          try clear c10
          try clear c11
          try clear c14
          try clear c14b0
          try clear c14b1
          try clear c16
          try clear c17
          try clear c19
          try clear c22
          try clear c22b0
          try clear c24
          try clear c26
          try clear c26b0
          try clear c27
          try clear c27b0
          try clear c28
          try clear c30
          try clear hcz12_0
          try clear hcz12_1
          try clear hcz12_2
          try clear hcz17_0
          try clear hcz17_1
          try clear hcz17_2
          try clear hcz25_0
          try clear hcz25_1
          try clear hcz25_2
          try clear hcz29_0
          try clear hcz29_1
          try clear hcz29_2
          try clear hcz31_0
          try clear hcz31_1
          try clear hcz31_2
          try clear hcz8_0
          try clear hcz8_1
          try clear hcz8_2
          try clear hfz12_0
          try clear hfz12_1
          try clear hfz12_2
          try clear hfz17_0
          try clear hfz17_1
          try clear hfz17_2
          try clear hfz25_0
          try clear hfz25_1
          try clear hfz25_2
          try clear hfz29_0
          try clear hfz29_1
          try clear hfz29_2
          try clear hfz31_0
          try clear hfz31_1
          try clear hfz31_2
          try clear hfz8_0
          try clear hfz8_1
          try clear hfz8_2
          try clear hx590_0
          try clear hx591_0
          try clear p2
          try clear p590
          try clear p591
          try clear q590
          try clear q591
          obtain ⟨kq, x55_22, rfl, HA, HJ22, HO_588002, BK580, BK587, HB⟩ := hcut
          cases kq with
          | zero => exact absurd HA.out (by simp [kimberlitelaw03_CurveBack.j2])
          | succ kj22 =>
           have H := HA.out
           clear HA
           simp only [kimberlitelaw03_CurveBack.j2] at H
           by_cases c32 : x55_22 = true
           · subst c32
             have H1 : ((kimberlitelaw03_alive.f).bind fun t592 => (some t592)) = some r := by rw [if_pos rfl] at H; exact H
             clear H
             have H := H1
             clear H1
             replace H := Option.bind_eq_some_iff.mp H
             obtain ⟨t592, A330, H⟩ := H
             replace H : (some t592) = some r := H
             have A33 := Aside0.mk A330
             clear A330
             obtain rfl := Option.some.inj H
             go_wp2_with (first | ((with_reducible refine gate_callee (f := 17) rfl ?_); refine goesL_ (some 56) rfl rfl Try.func17 (by kernel_rfl) rfl #[] rfl (by (try simp only [List.map_toArray, List.map_cons, List.map_nil]); first | done | rfl | (simp only [List.length_drop, List.length_take]; rfl)) ?_; (with_reducible refine (kimberlitelaw03_alive.calls  t592 _ A33.out).mono ?_); rintro e w34 ⟨rfl, hb⟩; refine ⟨_, rfl, ?_⟩; have n0_ := Aside0.mk (Kd.R_below (by (with_reducible repeat (first | apply Kd.R_alloc | apply Kd.R_drewN | apply Kd.R_drew)); exact HO_588002.out) hb); have n1_ := Aside0.mk (blk_below (g := gb580) (o := .cells #[.int .i64 a0_0, .int .i64 a0_1, .slice A0_2 l0_2.length c0_2] 24 (0, 0)) (by (with_reducible repeat (first | refine blk_drewN ?_ _ | refine blk_drew ?_ | refine blk_alloc ?_ _)); exact BK580.out) hb); have n2_ := Aside0.mk (blk_below (g := gb587) (o := .cells #[.int .i64 t581, .int .i64 t582, .slice Ao13 t583.length co13] 24 (0, 0)) (by (with_reducible repeat (first | refine blk_drewN ?_ _ | refine blk_drew ?_ | refine blk_alloc ?_ _)); exact BK587.out) hb); have n3_ := Aside0.mk (below_step (by repeat (first | (with_reducible first | exact HB.out | apply below_alloc | apply pw_below_drewN | apply below_drew1 | refine below_set ?_ GE580.out | refine below_set ?_ GE587.out) | exact HB.out)) hb); clear HO_588002; clear BK580; clear BK587; clear HB; have HO_588002 := n0_; have BK580 := n1_; have BK587 := n2_; have HB := n3_; clear n0_ n1_ n2_ n3_; (try clear hb); (try clear hb2); (try clear hk); (try clear hi)))
             go_ret
             exact ⟨by first | rfl | (simp [errW_none, errW_some] <;> rfl) | (simp [*, errW_none, errW_some] <;> rfl), by repeat (first | (with_reducible first | exact HB.out | apply below_alloc | apply pw_below_drewN | apply below_drew1 | refine below_set ?_ GE580.out | refine below_set ?_ GE587.out) | exact HB.out)⟩
           · replace c32 := Bool.eq_false_iff.mpr c32
             subst c32
             have H1 : (kimberlitelaw03_CurveBack.l0 kj22 a1 a2 a3 (wrap64 (x11_2 + 1)) a0_0 a0_1 l0_2 t581 t582 t583) = some r := by rw [if_neg (show ¬ (false = true) by decide)] at H; exact H
             clear H
             have H := H1
             clear H1
             have H' := Aside0.mk H
             clear H
             go_wp2
             go_roundg kj22
             case measure => have := HJ5.out; have := HK2.out; have := HJ22.out; omega
             case rel => exact ⟨(wrap64 (x11_2 + 1)), (by first | rfl | (simp; done) | (simp [*]; done)), H', ⟨by have := HJ5.out; have := HK2.out; have := HJ22.out; omega⟩, ⟨by (with_reducible repeat (first | apply Kd.R_alloc | apply Kd.R_drewN | apply Kd.R_drew)); exact HO_588002.out⟩, ⟨by (with_reducible repeat (first | refine blk_drewN ?_ _ | refine blk_drew ?_ | refine blk_alloc ?_ _)); exact BK580.out⟩, ⟨by (with_reducible repeat (first | refine blk_drewN ?_ _ | refine blk_drew ?_ | refine blk_alloc ?_ _)); exact BK587.out⟩, ⟨by repeat (first | (with_reducible first | exact HB.out | apply below_alloc | apply pw_below_drewN | apply below_drew1 | refine below_set ?_ GE580.out | refine below_set ?_ GE587.out) | exact HB.out)⟩⟩
       · rw [if_neg c22] at H
         have c22b0 : decide (x11_2 < (l0_2.length : Int)) = false := decide_eq_false c22
         clear c22
         replace H := Option.bind_eq_some_iff.mp H
         obtain ⟨⟨t593, t594⟩, A350, H⟩ := H
         replace H : (if t594 = true then ((kimberlitelaw03_at.f t581 t582 t583 a1).bind fun bt596 => (kimberlitelaw03_CurveBack.l1 k2 a2 a3 t593 bt596.2 (wrap64 ((wrap64 (a1 * a3)) - bt596.1)) a1 t581 t582 t583)) else ((kimberlitelaw03_alive.f).bind fun t595 => (some t595))) = some r := H
         have A35 := Aside0.mk A350
         clear A350
         by_cases c36 : t594 = true
         · subst c36
           have H1 : ((kimberlitelaw03_at.f t581 t582 t583 a1).bind fun bt596 => (kimberlitelaw03_CurveBack.l1 k2 a2 a3 t593 bt596.2 (wrap64 ((wrap64 (a1 * a3)) - bt596.1)) a1 t581 t582 t583)) = some r := by rw [if_pos rfl] at H; exact H
           clear H
           have H := H1
           clear H1
           replace H := Option.bind_eq_some_iff.mp H
           obtain ⟨⟨t596, t597⟩, A370, H⟩ := H
           replace H : (kimberlitelaw03_CurveBack.l1 k2 a2 a3 t593 t597 (wrap64 ((wrap64 (a1 * a3)) - t596)) a1 t581 t582 t583) = some r := H
           have A37 := Aside0.mk A370
           clear A370
           have H' := Aside0.mk H
           clear H
           have hnb38 := NB580_587.out
           have hnc38 := NB587_580.out
           have hcz39_0 : wr.cell? ⟨gb580, 0, none⟩ = some (.int .i64 a0_0) := (blk_cell BK580.out 0).trans rfl
           have hcz39_1 : wr.cell? ⟨gb580, 1, none⟩ = some (.int .i64 a0_1) := (blk_cell BK580.out 1).trans rfl
           have hcz39_2 : wr.cell? ⟨gb580, 2, none⟩ = some (.slice A0_2 l0_2.length c0_2) := (blk_cell BK580.out 2).trans rfl
           have hfz39_0 := blk_frozen BK580.out 0
           have hfz39_1 := blk_frozen BK580.out 1
           have hfz39_2 := blk_frozen BK580.out 2
           go_wp2_with (first | ((with_reducible refine gate_callee (f := 18) rfl ?_); refine goesL_ (some 60) rfl rfl Try.func18 (by kernel_rfl) rfl #[.agg #[.int .i64 a0_0, .int .i64 a0_1, .slice A0_2 l0_2.length c0_2], .int .i64 a3] rfl (by (try simp only [List.map_toArray, List.map_cons, List.map_nil]); first | done | rfl | (simp only [List.length_drop, List.length_take]; rfl)) ?_; (with_reducible refine (kimberlitelaw03_at.calls a0_0 a0_1 _ _ l0_2 a3 t593 true _ ?side1 ?side2 A35.out).mono ?_); (case side1 => repeat (first | exact (Kd.C_below HR0_2.out HB.out) | (with_reducible refine Kd.C_alloc ?_ _) | (with_reducible refine Kd.C_drewN ?_ _) | (with_reducible refine Kd.C_drew ?_))); (case side2 => exact HC0_2.out); rintro e w40 ⟨rfl, hb⟩; refine ⟨_, rfl, ?_⟩; have n0_ := Aside0.mk (Kd.R_below (by (with_reducible repeat (first | apply Kd.R_alloc | apply Kd.R_drewN | apply Kd.R_drew)); exact HO_588002.out) hb); have n1_ := Aside0.mk (blk_below (g := gb580) (o := .cells #[.int .i64 a0_0, .int .i64 a0_1, .slice A0_2 l0_2.length c0_2] 24 (0, 0)) (by (with_reducible repeat (first | refine blk_drewN ?_ _ | refine blk_drew ?_ | refine blk_alloc ?_ _)); exact BK580.out) hb); have n2_ := Aside0.mk (blk_below (g := gb587) (o := .cells #[.int .i64 t581, .int .i64 t582, .slice Ao13 t583.length co13] 24 (0, 0)) (by (with_reducible repeat (first | refine blk_drewN ?_ _ | refine blk_drew ?_ | refine blk_alloc ?_ _)); exact BK587.out) hb); have n3_ := Aside0.mk (below_step (by repeat (first | (with_reducible first | exact HB.out | apply below_alloc | apply pw_below_drewN | apply below_drew1 | refine below_set ?_ GE580.out | refine below_set ?_ GE587.out) | exact HB.out)) hb); clear HO_588002; clear BK580; clear BK587; clear HB; have HO_588002 := n0_; have BK580 := n1_; have BK587 := n2_; have HB := n3_; clear n0_ n1_ n2_ n3_; (try clear hb); (try clear hb2); (try clear hk); (try clear hi); have hcz41_0 : w40.cell? ⟨gb587, 0, none⟩ = some (.int .i64 t581) := (blk_cell BK587.out 0).trans rfl; have hcz41_1 : w40.cell? ⟨gb587, 1, none⟩ = some (.int .i64 t582) := (blk_cell BK587.out 1).trans rfl; have hcz41_2 : w40.cell? ⟨gb587, 2, none⟩ = some (.slice Ao13 t583.length co13) := (blk_cell BK587.out 2).trans rfl; have hfz41_0 := blk_frozen BK587.out 0; have hfz41_1 := blk_frozen BK587.out 1; have hfz41_2 := blk_frozen BK587.out 2) | ((with_reducible refine gate_callee (f := 18) rfl ?_); refine goesL_ (some 69) rfl rfl Try.func18 (by kernel_rfl) rfl #[.agg #[.int .i64 t581, .int .i64 t582, .slice Ao13 t583.length co13], .int .i64 a1] rfl (by (try simp only [List.map_toArray, List.map_cons, List.map_nil]); first | done | rfl | (simp only [List.length_drop, List.length_take]; rfl)) ?_; (with_reducible refine (kimberlitelaw03_at.calls t581 t582 _ _ t583 a1 t596 t597 _ ?side1 ?side2 A37.out).mono ?_); (case side1 => repeat (first | exact (Kd.R_reads' HO_588002.out).2.2 | (with_reducible refine Kd.C_alloc ?_ _) | (with_reducible refine Kd.C_drewN ?_ _) | (with_reducible refine Kd.C_drew ?_))); (case side2 => exact (Kd.R_reads' HO_588002.out).2.1); rintro e w42 ⟨rfl, hb⟩; refine ⟨_, rfl, ?_⟩; have n0_ := Aside0.mk (Kd.R_below (by (with_reducible repeat (first | apply Kd.R_alloc | apply Kd.R_drewN | apply Kd.R_drew)); exact HO_588002.out) hb); have n1_ := Aside0.mk (blk_below (g := gb580) (o := .cells #[.int .i64 a0_0, .int .i64 a0_1, .slice A0_2 l0_2.length c0_2] 24 (0, 0)) (by (with_reducible repeat (first | refine blk_drewN ?_ _ | refine blk_drew ?_ | refine blk_alloc ?_ _)); exact BK580.out) hb); have n2_ := Aside0.mk (blk_below (g := gb587) (o := .cells #[.int .i64 t581, .int .i64 t582, .slice Ao13 t583.length co13] 24 (0, 0)) (by (with_reducible repeat (first | refine blk_drewN ?_ _ | refine blk_drew ?_ | refine blk_alloc ?_ _)); exact BK587.out) hb); have n3_ := Aside0.mk (below_step (by repeat (first | (with_reducible first | exact HB.out | apply below_alloc | apply pw_below_drewN | apply below_drew1 | refine below_set ?_ GE580.out | refine below_set ?_ GE587.out) | exact HB.out)) hb); clear HO_588002; clear BK580; clear BK587; clear HB; have HO_588002 := n0_; have BK580 := n1_; have BK587 := n2_; have HB := n3_; clear n0_ n1_ n2_ n3_; (try clear hb); (try clear hb2); (try clear hk); (try clear hi)))
           go_loopg [15, 16, 17] k2 (fun kq v15 v16 v17 w' => ∃ (x15_3 : Bool) (x16_3 : Int) (x17_3 : Int), v15 = .bool x15_3 ∧ v16 = .int .i64 x16_3 ∧ v17 = .int .i64 x17_3 ∧ Aside0 (kimberlitelaw03_CurveBack.l1 kq a2 a3 t593 x15_3 x16_3 x17_3 t581 t582 t583 = some r) ∧ Aside0 (kq ≤ k2) ∧ Aside0 (Kd.R (Kd.int .i64) 3 w' w.heap.size (fun _ => True) (.slice Ao13 t583.length co13) t583) ∧ Aside0 (w'.heap[gb580]? = some (.cells #[.int .i64 a0_0, .int .i64 a0_1, (.slice A0_2 l0_2.length c0_2)] 24 (0, 0))) ∧ Aside0 (w'.heap[gb587]? = some (.cells #[.int .i64 t581, .int .i64 t582, (.slice Ao13 t583.length co13)] 24 (0, 0))) ∧ Aside0 (Below w.heap.size w w'))
           case atStart => exact ⟨(t597), (wrap64 ((wrap64 (a1 * a3)) - t596)), (a1), (by first | rfl | (simp; done) | (simp [*]; done)), (by first | rfl | (simp; done) | (simp [*]; done)), (by first | rfl | (simp; done) | (simp [*]; done)), H', ⟨Nat.le_refl _⟩, ⟨by (with_reducible repeat (first | apply Kd.R_alloc | apply Kd.R_drewN | apply Kd.R_drew)); exact HO_588002.out⟩, ⟨by (with_reducible repeat (first | refine blk_drewN ?_ _ | refine blk_drew ?_ | refine blk_alloc ?_ _)); exact BK580.out⟩, ⟨by (with_reducible repeat (first | refine blk_drewN ?_ _ | refine blk_drew ?_ | refine blk_alloc ?_ _)); exact BK587.out⟩, ⟨by repeat (first | (with_reducible first | exact HB.out | apply below_alloc | apply pw_below_drewN | apply below_drew1 | refine below_set ?_ GE580.out | refine below_set ?_ GE587.out) | exact HB.out)⟩⟩
           case round =>
            clear H'
            try clear c1
            try clear c2
            try clear p2
            try clear c3
            try clear p5
            try clear q5
            try clear hx5
            try clear p6
            try clear c10
            try clear c11
            try clear c14
            try clear c14b0
            try clear c14b1
            try clear c16
            try clear c17
            try clear c18
            try clear c19
            try clear c22
            try clear c22b0
            try clear c24
            try clear c26
            try clear c26b0
            try clear c27
            try clear c27b0
            try clear c28
            try clear c30
            try clear c32
            try clear c36
            try clear c38
            try clear hcz12_0
            try clear hcz12_1
            try clear hcz12_2
            try clear hcz17_0
            try clear hcz17_1
            try clear hcz17_2
            try clear hcz25_0
            try clear hcz25_1
            try clear hcz25_2
            try clear hcz29_0
            try clear hcz29_1
            try clear hcz29_2
            try clear hcz31_0
            try clear hcz31_1
            try clear hcz31_2
            try clear hcz39_0
            try clear hcz39_1
            try clear hcz39_2
            try clear hcz41_0
            try clear hcz41_1
            try clear hcz41_2
            try clear hcz8_0
            try clear hcz8_1
            try clear hcz8_2
            try clear hfz12_0
            try clear hfz12_1
            try clear hfz12_2
            try clear hfz17_0
            try clear hfz17_1
            try clear hfz17_2
            try clear hfz25_0
            try clear hfz25_1
            try clear hfz25_2
            try clear hfz29_0
            try clear hfz29_1
            try clear hfz29_2
            try clear hfz31_0
            try clear hfz31_1
            try clear hfz31_2
            try clear hfz39_0
            try clear hfz39_1
            try clear hfz39_2
            try clear hfz41_0
            try clear hfz41_1
            try clear hfz41_2
            try clear hfz8_0
            try clear hfz8_1
            try clear hfz8_2
            try clear hx590_0
            try clear hx591_0
            try clear p2
            try clear p5
            try clear p590
            try clear p591
            try clear q5
            try clear q590
            try clear q591
            obtain ⟨x15_3, x16_3, x17_3, rfl, rfl, rfl, HA, HK3, HO_588002, BK580, BK587, HB⟩ := hrel
            cases gk with
            | zero => exact absurd HA.out (by simp [kimberlitelaw03_CurveBack.l1])
            | succ k3 =>
             have H := HA.out
             clear HA
             simp only [kimberlitelaw03_CurveBack.l1] at H
             have HC43 := Aside0.mk H
             clear H
             go_upto_region 15 with (fail)
             go_cut [83] (fun v83 wc => ∃ (kq : Nat) (x83_42 : Bool), v83 = .bool x83_42 ∧ Aside0 (kimberlitelaw03_CurveBack.j4 kq a2 a3 t593 x15_3 x16_3 x17_3 x83_42 t581 t582 t583 = some r) ∧ Aside0 (kq ≤ k3) ∧ Aside0 (Kd.R (Kd.int .i64) 3 wc w.heap.size (fun _ => True) (.slice Ao13 t583.length co13) t583) ∧ Aside0 (wc.heap[gb580]? = some (.cells #[.int .i64 a0_0, .int .i64 a0_1, (.slice A0_2 l0_2.length c0_2)] 24 (0, 0))) ∧ Aside0 (wc.heap[gb587]? = some (.cells #[.int .i64 t581, .int .i64 t582, (.slice Ao13 t583.length co13)] 24 (0, 0))) ∧ Aside0 (Below w.heap.size w wc))
             case first =>
              have H := HC43.out
              clear HC43
              by_cases c44 : x17_3 ≤ a2
              · rw [if_pos c44] at H
                have c44b0 : decide (x17_3 ≤ a2) = true := decide_eq_true c44
                clear c44
                (first | rw [c44b0] | (simp only [i64_w, i32_w]; rw [c44b0]) | skip)
                have H' := Aside0.mk H
                clear H
                go_wp2
                go_meet
                case rel => exact ⟨_, (x15_3), (by first | rfl | (simp; done) | (simp [*]; done)), H', ⟨by have := HJ5.out; have := HK2.out; have := HK3.out; first | omega | exact Nat.le_refl _⟩, ⟨by (with_reducible repeat (first | apply Kd.R_alloc | apply Kd.R_drewN | apply Kd.R_drew)); exact HO_588002.out⟩, ⟨by (with_reducible repeat (first | refine blk_drewN ?_ _ | refine blk_drew ?_ | refine blk_alloc ?_ _)); exact BK580.out⟩, ⟨by (with_reducible repeat (first | refine blk_drewN ?_ _ | refine blk_drew ?_ | refine blk_alloc ?_ _)); exact BK587.out⟩, ⟨by repeat (first | (with_reducible first | exact HB.out | apply below_alloc | apply pw_below_drewN | apply below_drew1 | refine below_set ?_ GE580.out | refine below_set ?_ GE587.out) | exact HB.out)⟩⟩
              · rw [if_neg c44] at H
                have c44b0 : decide (x17_3 ≤ a2) = false := decide_eq_false c44
                clear c44
                (first | rw [c44b0] | (simp only [i64_w, i32_w]; rw [c44b0]) | skip)
                have H' := Aside0.mk H
                clear H
                go_wp2
                go_meet
                case rel => exact ⟨_, (false), (by first | rfl | (simp; done) | (simp [*]; done)), H', ⟨by have := HJ5.out; have := HK2.out; have := HK3.out; first | omega | exact Nat.le_refl _⟩, ⟨by (with_reducible repeat (first | apply Kd.R_alloc | apply Kd.R_drewN | apply Kd.R_drew)); exact HO_588002.out⟩, ⟨by (with_reducible repeat (first | refine blk_drewN ?_ _ | refine blk_drew ?_ | refine blk_alloc ?_ _)); exact BK580.out⟩, ⟨by (with_reducible repeat (first | refine blk_drewN ?_ _ | refine blk_drew ?_ | refine blk_alloc ?_ _)); exact BK587.out⟩, ⟨by repeat (first | (with_reducible first | exact HB.out | apply below_alloc | apply pw_below_drewN | apply below_drew1 | refine below_set ?_ GE580.out | refine below_set ?_ GE587.out) | exact HB.out)⟩⟩
             case rest =>
              clear HC43
              try clear c1
              try clear c2
              try clear p2
              try clear c3
              try clear c4
              try clear p5
              try clear q5
              try clear hx5
              try clear p6
              try clear c10
              try clear c11
              try clear c14
              try clear c14b0
              try clear c14b1
              try clear c16
              try clear c17
              try clear c18
              try clear c19
              try clear c22
              try clear c22b0
              try clear c24
              try clear c26
              try clear c26b0
              try clear c27
              try clear c27b0
              try clear c28
              try clear c30
              try clear c32
              try clear c36
              try clear c38
              try clear c44
              try clear c44b0
              try clear hcz12_0
              try clear hcz12_1
              try clear hcz12_2
              try clear hcz17_0
              try clear hcz17_1
              try clear hcz17_2
              try clear hcz25_0
              try clear hcz25_1
              try clear hcz25_2
              try clear hcz29_0
              try clear hcz29_1
              try clear hcz29_2
              try clear hcz31_0
              try clear hcz31_1
              try clear hcz31_2
              try clear hcz39_0
              try clear hcz39_1
              try clear hcz39_2
              try clear hcz41_0
              try clear hcz41_1
              try clear hcz41_2
              try clear hcz8_0
              try clear hcz8_1
              try clear hcz8_2
              try clear hfz12_0
              try clear hfz12_1
              try clear hfz12_2
              try clear hfz17_0
              try clear hfz17_1
              try clear hfz17_2
              try clear hfz25_0
              try clear hfz25_1
              try clear hfz25_2
              try clear hfz29_0
              try clear hfz29_1
              try clear hfz29_2
              try clear hfz31_0
              try clear hfz31_1
              try clear hfz31_2
              try clear hfz39_0
              try clear hfz39_1
              try clear hfz39_2
              try clear hfz41_0
              try clear hfz41_1
              try clear hfz41_2
              try clear hfz8_0
              try clear hfz8_1
              try clear hfz8_2
              try clear hx590_0
              try clear hx591_0
              try clear p2
              try clear p5
              try clear p590
              try clear p591
              try clear p6
              try clear q5
              try clear q590
              try clear q591
              obtain ⟨kq, x83_42, rfl, HA, HJ42, HO_588002, BK580, BK587, HB⟩ := hcut
              cases kq with
              | zero => exact absurd HA.out (by simp [kimberlitelaw03_CurveBack.j4])
              | succ kj42 =>
               have H := HA.out
               clear HA
               simp only [kimberlitelaw03_CurveBack.j4] at H
               by_cases c45 : x83_42 = true
               · subst c45
                 have H1 : ((kimberlitelaw03_at.f t581 t582 t583 x17_3).bind fun bt598 => (kimberlitelaw03_CurveBack.l1 kj42 a2 a3 t593 bt598.2 (mx x16_3 (wrap64 ((wrap64 (x17_3 * a3)) - bt598.1))) (wrap64 (x17_3 + 1)) t581 t582 t583)) = some r := by rw [if_pos rfl] at H; exact H
                 clear H
                 have H := H1
                 clear H1
                 replace H := Option.bind_eq_some_iff.mp H
                 obtain ⟨⟨t598, t599⟩, A460, H⟩ := H
                 replace H : (kimberlitelaw03_CurveBack.l1 kj42 a2 a3 t593 t599 (mx x16_3 (wrap64 ((wrap64 (x17_3 * a3)) - t598))) (wrap64 (x17_3 + 1)) t581 t582 t583) = some r := H
                 have A46 := Aside0.mk A460
                 clear A460
                 obtain ⟨ji47, hji47⟩ : ∃ j_ : Int, (mx x16_3 (wrap64 ((wrap64 (x17_3 * a3)) - t598))) = j_ := ⟨_, rfl⟩
                 replace H : (kimberlitelaw03_CurveBack.l1 kj42 a2 a3 t593 t599 ji47 (wrap64 (x17_3 + 1)) t581 t582 t583) = some r := by first | (rw [hji47] at H; exact H) | (simp only [hji47] at H ⊢; exact H)
                 (try rw [hji47] at A46)
                 have hji47_ : (if x16_3 < (wrap64 ((wrap64 (x17_3 * a3)) - t598)) then (wrap64 ((wrap64 (x17_3 * a3)) - t598)) else x16_3) = ji47 := hji47
                 have H' := Aside0.mk H
                 clear H
                 have hnb48 := NB587_580.out
                 have hnc48 := NB580_587.out
                 have hcz49_0 : wc.cell? ⟨gb587, 0, none⟩ = some (.int .i64 t581) := (blk_cell BK587.out 0).trans rfl
                 have hcz49_1 : wc.cell? ⟨gb587, 1, none⟩ = some (.int .i64 t582) := (blk_cell BK587.out 1).trans rfl
                 have hcz49_2 : wc.cell? ⟨gb587, 2, none⟩ = some (.slice Ao13 t583.length co13) := (blk_cell BK587.out 2).trans rfl
                 have hfz49_0 := blk_frozen BK587.out 0
                 have hfz49_1 := blk_frozen BK587.out 1
                 have hfz49_2 := blk_frozen BK587.out 2
                 go_wp2_with (first | ((with_reducible refine gate_callee (f := 18) rfl ?_); refine goesL_ (some 89) rfl rfl Try.func18 (by kernel_rfl) rfl #[.agg #[.int .i64 t581, .int .i64 t582, .slice Ao13 t583.length co13], .int .i64 x17_3] rfl (by (try simp only [List.map_toArray, List.map_cons, List.map_nil]); first | done | rfl | (simp only [List.length_drop, List.length_take]; rfl)) ?_; (with_reducible refine (kimberlitelaw03_at.calls t581 t582 _ _ t583 x17_3 t598 t599 _ ?side1 ?side2 A46.out).mono ?_); (case side1 => repeat (first | exact (Kd.R_reads' HO_588002.out).2.2 | (with_reducible refine Kd.C_alloc ?_ _) | (with_reducible refine Kd.C_drewN ?_ _) | (with_reducible refine Kd.C_drew ?_))); (case side2 => exact (Kd.R_reads' HO_588002.out).2.1); rintro e w50 ⟨rfl, hb⟩; refine ⟨_, rfl, ?_⟩; have n0_ := Aside0.mk (Kd.R_below (by (with_reducible repeat (first | apply Kd.R_alloc | apply Kd.R_drewN | apply Kd.R_drew)); exact HO_588002.out) hb); have n1_ := Aside0.mk (blk_below (g := gb580) (o := .cells #[.int .i64 a0_0, .int .i64 a0_1, .slice A0_2 l0_2.length c0_2] 24 (0, 0)) (by (with_reducible repeat (first | refine blk_drewN ?_ _ | refine blk_drew ?_ | refine blk_alloc ?_ _)); exact BK580.out) hb); have n2_ := Aside0.mk (blk_below (g := gb587) (o := .cells #[.int .i64 t581, .int .i64 t582, .slice Ao13 t583.length co13] 24 (0, 0)) (by (with_reducible repeat (first | refine blk_drewN ?_ _ | refine blk_drew ?_ | refine blk_alloc ?_ _)); exact BK587.out) hb); have n3_ := Aside0.mk (below_step (by repeat (first | (with_reducible first | exact HB.out | apply below_alloc | apply pw_below_drewN | apply below_drew1 | refine below_set ?_ GE580.out | refine below_set ?_ GE587.out) | exact HB.out)) hb); clear HO_588002; clear BK580; clear BK587; clear HB; have HO_588002 := n0_; have BK580 := n1_; have BK587 := n2_; have HB := n3_; clear n0_ n1_ n2_ n3_; (try clear hb); (try clear hb2); (try clear hk); (try clear hi)))
                 go_roundg kj42
                 case measure => have := HJ5.out; have := HK2.out; have := HK3.out; have := HJ42.out; omega
                 case rel => exact ⟨(t599), (ji47), (wrap64 (x17_3 + 1)), (by first | rfl | (simp; done) | (simp [*]; done)), (by first | rfl | (simp; done) | (simp only [← hji47] <;> (first | rfl | simp)) | (simp [*]; done)), (by first | rfl | (simp; done) | (simp [*]; done)), H', ⟨by have := HJ5.out; have := HK2.out; have := HK3.out; have := HJ42.out; omega⟩, ⟨by (with_reducible repeat (first | apply Kd.R_alloc | apply Kd.R_drewN | apply Kd.R_drew)); exact HO_588002.out⟩, ⟨by (with_reducible repeat (first | refine blk_drewN ?_ _ | refine blk_drew ?_ | refine blk_alloc ?_ _)); exact BK580.out⟩, ⟨by (with_reducible repeat (first | refine blk_drewN ?_ _ | refine blk_drew ?_ | refine blk_alloc ?_ _)); exact BK587.out⟩, ⟨by repeat (first | (with_reducible first | exact HB.out | apply below_alloc | apply pw_below_drewN | apply below_drew1 | refine below_set ?_ GE580.out | refine below_set ?_ GE587.out) | exact HB.out)⟩⟩
               · replace c45 := Bool.eq_false_iff.mpr c45
                 subst c45
                 have H1 : (if x15_3 = true then (if x16_3 = t593 then ((kimberlitelaw03_alive.f).bind fun t600 => (some t600)) else (some false)) else (some false)) = some r := by rw [if_neg (show ¬ (false = true) by decide)] at H; exact H
                 clear H
                 have H := H1
                 clear H1
                 by_cases c51 : x15_3 = true
                 · subst c51
                   have H1 : (if x16_3 = t593 then ((kimberlitelaw03_alive.f).bind fun t600 => (some t600)) else (some false)) = some r := by rw [if_pos rfl] at H; exact H
                   clear H
                   have H := H1
                   clear H1
                   by_cases c52 : x16_3 = t593
                   · rw [if_pos c52] at H
                     have c52b0 : (x16_3 == t593) = true := beq_iff_eq.mpr c52
                     have c52b1 : (x16_3 != t593) = false := bne_eq_false_iff_eq.mpr c52
                     clear c52
                     replace H := Option.bind_eq_some_iff.mp H
                     obtain ⟨t600, A530, H⟩ := H
                     replace H : (some t600) = some r := H
                     have A53 := Aside0.mk A530
                     clear A530
                     obtain rfl := Option.some.inj H
                     go_wp2_with (first | (go_at_call 17; (with_reducible refine (kimberlitelaw03_alive.calls  t600 _ A53.out).mono ?_); rintro e w54 ⟨rfl, hb⟩; have n0_ := Aside0.mk (Kd.R_below (by (with_reducible repeat (first | apply Kd.R_alloc | apply Kd.R_drewN | apply Kd.R_drew)); exact HO_588002.out) hb); have n1_ := Aside0.mk (blk_below (g := gb580) (o := .cells #[.int .i64 a0_0, .int .i64 a0_1, .slice A0_2 l0_2.length c0_2] 24 (0, 0)) (by (with_reducible repeat (first | refine blk_drewN ?_ _ | refine blk_drew ?_ | refine blk_alloc ?_ _)); exact BK580.out) hb); have n2_ := Aside0.mk (blk_below (g := gb587) (o := .cells #[.int .i64 t581, .int .i64 t582, .slice Ao13 t583.length co13] 24 (0, 0)) (by (with_reducible repeat (first | refine blk_drewN ?_ _ | refine blk_drew ?_ | refine blk_alloc ?_ _)); exact BK587.out) hb); have n3_ := Aside0.mk (below_step (by repeat (first | (with_reducible first | exact HB.out | apply below_alloc | apply pw_below_drewN | apply below_drew1 | refine below_set ?_ GE580.out | refine below_set ?_ GE587.out) | exact HB.out)) hb); clear HO_588002; clear BK580; clear BK587; clear HB; have HO_588002 := n0_; have BK580 := n1_; have BK587 := n2_; have HB := n3_; clear n0_ n1_ n2_ n3_; (try clear hb); (try clear hb2); (try clear hk); (try clear hi)))
                     go_ret
                     exact ⟨by first | rfl | (simp [errW_none, errW_some] <;> rfl) | (simp [*, errW_none, errW_some] <;> rfl), by repeat (first | (with_reducible first | exact HB.out | apply below_alloc | apply pw_below_drewN | apply below_drew1 | refine below_set ?_ GE580.out | refine below_set ?_ GE587.out) | exact HB.out)⟩
                   · rw [if_neg c52] at H
                     have c52b0 : (x16_3 == t593) = false := beq_eq_false_iff_ne.mpr c52
                     have c52b1 : (x16_3 != t593) = true := bne_iff_ne.mpr c52
                     obtain rfl := Option.some.inj H
                     go_wp2
                     go_ret
                     exact ⟨by first | rfl | (simp [errW_none, errW_some] <;> rfl) | (simp [*, errW_none, errW_some] <;> rfl), by repeat (first | (with_reducible first | exact HB.out | apply below_alloc | apply pw_below_drewN | apply below_drew1 | refine below_set ?_ GE580.out | refine below_set ?_ GE587.out) | exact HB.out)⟩
                 · replace c51 := Bool.eq_false_iff.mpr c51
                   subst c51
                   have H1 : (some false) = some r := by rw [if_neg (show ¬ (false = true) by decide)] at H; exact H
                   clear H
                   have H := H1
                   clear H1
                   obtain rfl := Option.some.inj H
                   go_wp2
                   go_ret
                   exact ⟨by first | rfl | (simp [errW_none, errW_some] <;> rfl) | (simp [*, errW_none, errW_some] <;> rfl), by repeat (first | (with_reducible first | exact HB.out | apply below_alloc | apply pw_below_drewN | apply below_drew1 | refine below_set ?_ GE580.out | refine below_set ?_ GE587.out) | exact HB.out)⟩
         · replace c36 := Bool.eq_false_iff.mpr c36
           subst c36
           have H1 : ((kimberlitelaw03_alive.f).bind fun t595 => (some t595)) = some r := by rw [if_neg (show ¬ (false = true) by decide)] at H; exact H
           clear H
           have H := H1
           clear H1
           replace H := Option.bind_eq_some_iff.mp H
           obtain ⟨t595, A550, H⟩ := H
           replace H : (some t595) = some r := H
           have A55 := Aside0.mk A550
           clear A550
           obtain rfl := Option.some.inj H
           have hnb56 := NB580_587.out
           have hnc56 := NB587_580.out
           have hcz57_0 : wr.cell? ⟨gb580, 0, none⟩ = some (.int .i64 a0_0) := (blk_cell BK580.out 0).trans rfl
           have hcz57_1 : wr.cell? ⟨gb580, 1, none⟩ = some (.int .i64 a0_1) := (blk_cell BK580.out 1).trans rfl
           have hcz57_2 : wr.cell? ⟨gb580, 2, none⟩ = some (.slice A0_2 l0_2.length c0_2) := (blk_cell BK580.out 2).trans rfl
           have hfz57_0 := blk_frozen BK580.out 0
           have hfz57_1 := blk_frozen BK580.out 1
           have hfz57_2 := blk_frozen BK580.out 2
           go_wp2_with (first | ((with_reducible refine gate_callee (f := 18) rfl ?_); refine goesL_ (some 60) rfl rfl Try.func18 (by kernel_rfl) rfl #[.agg #[.int .i64 a0_0, .int .i64 a0_1, .slice A0_2 l0_2.length c0_2], .int .i64 a3] rfl (by (try simp only [List.map_toArray, List.map_cons, List.map_nil]); first | done | rfl | (simp only [List.length_drop, List.length_take]; rfl)) ?_; (with_reducible refine (kimberlitelaw03_at.calls a0_0 a0_1 _ _ l0_2 a3 t593 false _ ?side1 ?side2 A35.out).mono ?_); (case side1 => repeat (first | exact (Kd.C_below HR0_2.out HB.out) | (with_reducible refine Kd.C_alloc ?_ _) | (with_reducible refine Kd.C_drewN ?_ _) | (with_reducible refine Kd.C_drew ?_))); (case side2 => exact HC0_2.out); rintro e w58 ⟨rfl, hb⟩; refine ⟨_, rfl, ?_⟩; have n0_ := Aside0.mk (Kd.R_below (by (with_reducible repeat (first | apply Kd.R_alloc | apply Kd.R_drewN | apply Kd.R_drew)); exact HO_588002.out) hb); have n1_ := Aside0.mk (blk_below (g := gb580) (o := .cells #[.int .i64 a0_0, .int .i64 a0_1, .slice A0_2 l0_2.length c0_2] 24 (0, 0)) (by (with_reducible repeat (first | refine blk_drewN ?_ _ | refine blk_drew ?_ | refine blk_alloc ?_ _)); exact BK580.out) hb); have n2_ := Aside0.mk (blk_below (g := gb587) (o := .cells #[.int .i64 t581, .int .i64 t582, .slice Ao13 t583.length co13] 24 (0, 0)) (by (with_reducible repeat (first | refine blk_drewN ?_ _ | refine blk_drew ?_ | refine blk_alloc ?_ _)); exact BK587.out) hb); have n3_ := Aside0.mk (below_step (by repeat (first | (with_reducible first | exact HB.out | apply below_alloc | apply pw_below_drewN | apply below_drew1 | refine below_set ?_ GE580.out | refine below_set ?_ GE587.out) | exact HB.out)) hb); clear HO_588002; clear BK580; clear BK587; clear HB; have HO_588002 := n0_; have BK580 := n1_; have BK587 := n2_; have HB := n3_; clear n0_ n1_ n2_ n3_; (try clear hb); (try clear hb2); (try clear hk); (try clear hi)) | ((with_reducible refine gate_callee (f := 17) rfl ?_); refine goesL_ (some 65) rfl rfl Try.func17 (by kernel_rfl) rfl #[] rfl (by (try simp only [List.map_toArray, List.map_cons, List.map_nil]); first | done | rfl | (simp only [List.length_drop, List.length_take]; rfl)) ?_; (with_reducible refine (kimberlitelaw03_alive.calls  t595 _ A55.out).mono ?_); rintro e w59 ⟨rfl, hb⟩; refine ⟨_, rfl, ?_⟩; have n0_ := Aside0.mk (Kd.R_below (by (with_reducible repeat (first | apply Kd.R_alloc | apply Kd.R_drewN | apply Kd.R_drew)); exact HO_588002.out) hb); have n1_ := Aside0.mk (blk_below (g := gb580) (o := .cells #[.int .i64 a0_0, .int .i64 a0_1, .slice A0_2 l0_2.length c0_2] 24 (0, 0)) (by (with_reducible repeat (first | refine blk_drewN ?_ _ | refine blk_drew ?_ | refine blk_alloc ?_ _)); exact BK580.out) hb); have n2_ := Aside0.mk (blk_below (g := gb587) (o := .cells #[.int .i64 t581, .int .i64 t582, .slice Ao13 t583.length co13] 24 (0, 0)) (by (with_reducible repeat (first | refine blk_drewN ?_ _ | refine blk_drew ?_ | refine blk_alloc ?_ _)); exact BK587.out) hb); have n3_ := Aside0.mk (below_step (by repeat (first | (with_reducible first | exact HB.out | apply below_alloc | apply pw_below_drewN | apply below_drew1 | refine below_set ?_ GE580.out | refine below_set ?_ GE587.out) | exact HB.out)) hb); clear HO_588002; clear BK580; clear BK587; clear HB; have HO_588002 := n0_; have BK580 := n1_; have BK587 := n2_; have HB := n3_; clear n0_ n1_ n2_ n3_; (try clear hb); (try clear hb2); (try clear hk); (try clear hi)))
           go_ret
           exact ⟨by first | rfl | (simp [errW_none, errW_some] <;> rfl) | (simp [*, errW_none, errW_some] <;> rfl), by repeat (first | (with_reducible first | exact HB.out | apply below_alloc | apply pw_below_drewN | apply below_drew1 | refine below_set ?_ GE580.out | refine below_set ?_ GE587.out) | exact HB.out)⟩
end Go.Proofs.Ytingjpcgehgiiaa.Pr
end
section
namespace Go.Proofs.Ytingjpcgehgiiaa.Pr
open Go.RowKit Go.Proofs.YtingjpcgehgiiaaW.PrintWords Go.Proofs.YtingjpcgehgiiaaW.PrintLast Go.Proofs.YtingjpcgehgiiaaW.PrintMore
set_option linter.unusedVariables false
set_option linter.unusedSimpArgs false
/-- A price at a number, within the bounds of the slopes. -/
theorem price_within {c : S24} (hs : sortedI c.f2 = true) {x lo hi : Int} (hx : inC c x) (hle : lo ≤ hi) (hall : ∀ s ∈ c.f2, lo ≤ s ∧ s ≤ hi) : ∃ p, lo ≤ p ∧ p ≤ hi ∧ p * x - valC c x = gC c p := by
  obtain ⟨x1, x2⟩ := hx
  obtain ⟨k, hk⟩ := Int.eq_ofNat_of_zero_le (show 0 ≤ x - c.f0 by omega)
  have key : ∃ p, lo ≤ p ∧ p ≤ hi ∧ (∀ s ∈ c.f2.take k, s ≤ p) ∧ (∀ s ∈ c.f2.drop k, p ≤ s) := by
    by_cases h : k < c.f2.length
    · have hm := hall _ (List.mem_of_mem_drop (rd_mem_drop (l := c.f2) (k := k) (i := k) (Nat.le_refl _) h))
      refine ⟨rd c.f2 (k : Int), hm.1, hm.2, fun s h1 => ?_, fun s h1 => ?_⟩
      · obtain ⟨i, i1, i2, rfl⟩ := mem_take_rd h1
        exact sorted_rd hs (by omega) (by omega)
      · obtain ⟨i, i1, i2, rfl⟩ := mem_drop_rd h1
        exact sorted_rd hs (by omega) (by omega)
    · have e : k = c.f2.length := by omega
      refine ⟨hi, hle, Int.le_refl _, fun s h1 => (hall s (List.mem_of_mem_take h1)).2, fun s h1 => ?_⟩
      rw [List.drop_of_length_le (by omega)] at h1
      simp at h1
  obtain ⟨p, p1, p2, p3, p4⟩ := key
  have ek : (x - c.f0).toNat = k := by omega
  exact ⟨p, p1, p2, young_eq ⟨x1, x2⟩ (by rw [ek]; exact p3) (by rw [ek]; exact p4)⟩
/-- The last loop. -/
theorem back_l1 {c : S24} {lo hi x : Int} (vc : Vc c) (hb : -1048576 ≤ lo ∧ hi ≤ 1048576 ∧ lo ≤ hi) (hx : inC c x) (vd : Vc (conC c lo (hi - lo).toNat)) : ∀ (n : Nat) (p b : Int), p + (n : Int) = hi + 1 → lo ≤ p → b ≤ valC c x → (b = valC c x ∨ ∃ q, p ≤ q ∧ q ≤ hi ∧ q * x - gC c q = valC c x) →
    Ev (fun k => kimberlitelaw03_CurveBack.l1 k hi x (valC c x) true b p (conC c lo (hi - lo).toNat).f0 (conC c lo (hi - lo).toNat).f1 (conC c lo (hi - lo).toNat).f2) true
  | 0, p, b, hn, hp, hbv, hor => by
    have e : b = valC c x := by
      rcases hor with e | ⟨q, q1, q2, _⟩
      · exact e
      · omega
    subst e
    refine ⟨2, fun k hk => ?_⟩
    obtain ⟨m, rfl⟩ : ∃ m, k = m + 2 := ⟨k - 2, by omega⟩
    simp only [kimberlitelaw03_CurveBack.l1]
    rw [if_neg (by omega)]
    simp only [kimberlitelaw03_CurveBack.j4]
    rw [if_neg (by simp), if_pos trivial, if_pos trivial]
    rfl
  | n + 1, p, b, hn, hp, hbv, hor => by
    have hn2 : (hi - lo).toNat = (hi - lo).toNat := rfl
    obtain ⟨i, hi'⟩ := Int.eq_ofNat_of_zero_le (show 0 ≤ p - lo by omega)
    have ep : p = lo + (i : Int) := by omega
    have ind : inC (conC c lo (hi - lo).toNat) p := by
      unfold inC
      rw [conC_len]
      exact ⟨by show lo ≤ p; omega, by show p ≤ lo + _; omega⟩
    have ev : valC (conC c lo (hi - lo).toNat) p = gC c p := by
      rw [ep]
      exact conC_val c lo _ i (by omega)
    have hr : -1073741824 ≤ p ∧ p ≤ 1073741824 := by omega
    have hy := young p hx
    have hg := gC_bound vc hr
    have hpx := px_bound hr (in_bound vc hx)
    have ew : wrap64 (wrap64 (p * x) - gC c p) = p * x - gC c p := by clear hor; unfold wrap64; omega
    have ew2 : wrap64 (p + 1) = p + 1 := by clear hor ew; unfold wrap64; omega
    have q1 : p ≤ hi := by clear hor ew ew2; omega
    have ih := back_l1 vc hb hx vd n (p + 1) (max b (p * x - gC c p)) (by clear hor ew ew2; omega) (by clear hor ew ew2; omega) (by clear hor ew ew2; omega) (by
      rcases hor with e | ⟨q, a1, a2, a3⟩
      · left; clear ew ew2; omega
      · by_cases e : q = p
        · subst e; left; clear ew ew2; omega
        · exact .inr ⟨q, by clear ew ew2; omega, a2, a3⟩)
    obtain ⟨K, hK⟩ := ih
    refine ⟨K + 2, fun k hk => ?_⟩
    obtain ⟨m, rfl⟩ : ∃ m, k = m + 2 := ⟨k - 2, by clear hor ew ew2; omega⟩
    simp only [kimberlitelaw03_CurveBack.l1]
    rw [if_pos q1]
    simp only [kimberlitelaw03_CurveBack.j4]
    rw [if_pos trivial, at_law (conC c lo (hi - lo).toNat), Option.bind_some, atR_in vd ind]
    simp only
    rw [ev, ew, ew2, mx_eq]
    exact hK m (by clear hor ew ew2; omega)
/-- The loop over the slopes. -/
theorem back_l0 {c : S24} {lo hi x : Int} (vc : Vc c) (hb : -1048576 ≤ lo ∧ hi ≤ 1048576 ∧ lo ≤ hi) (vd : Vc (conC c lo (hi - lo).toNat)) : ∀ (n i : Nat), i + n = c.f2.length → (∀ j : Nat, j < i → lo ≤ rd c.f2 (j : Int) ∧ rd c.f2 (j : Int) ≤ hi) →
    Ev (fun k => kimberlitelaw03_CurveBack.l0 k lo hi x (i : Int) c.f0 c.f1 c.f2 (conC c lo (hi - lo).toNat).f0 (conC c lo (hi - lo).toNat).f1 (conC c lo (hi - lo).toNat).f2) true
  | 0, i, hi', hall => by
    have hl : ¬(i : Int) < (c.f2.length : Int) := by omega
    by_cases hx : inC c x
    · have hr : -1073741824 ≤ lo ∧ lo ≤ 1073741824 := by omega
      have ind : inC (conC c lo (hi - lo).toNat) lo := by
        unfold inC
        rw [conC_len]
        exact ⟨by show lo ≤ lo; omega, by show lo ≤ lo + _; omega⟩
      have ev : valC (conC c lo (hi - lo).toNat) lo = gC c lo := by
        have := conC_val c lo (hi - lo).toNat 0 (by omega)
        rw [show lo + ((0 : Nat) : Int) = lo by omega] at this
        exact this
      have hy := young lo hx
      have hg := gC_bound vc hr
      have hpx := px_bound hr (in_bound vc hx)
      have ew : wrap64 (wrap64 (lo * x) - gC c lo) = lo * x - gC c lo := by unfold wrap64; omega
      obtain ⟨p, p1, p2, p3⟩ := price_within (vc_parts vc).2.2.2.2.2.1 hx hb.2.2 (fun s hs => by
        obtain ⟨j, hj, rfl⟩ := List.mem_iff_getElem.1 hs
        have := hall j (by clear ew; omega)
        rw [rd_nat _ _ hj] at this
        exact this)
      have hgo := back_l1 vc hb hx vd (hi + 1 - lo).toNat lo (lo * x - gC c lo) (by clear ew p3; omega) (Int.le_refl _) (by clear ew p3; omega) (.inr ⟨p, p1, p2, by clear ew; omega⟩)
      refine Ev.step (fun k => ?_) hgo
      simp only [kimberlitelaw03_CurveBack.l0]
      rw [if_neg hl, at_law c, Option.bind_some, atR_in vc hx]
      simp only
      rw [if_pos trivial, at_law (conC c lo (hi - lo).toNat), Option.bind_some, atR_in vd ind]
      simp only
      rw [ev, ew]
    · refine Ev.step (f := fun _ => some true) (fun k => ?_) (Ev.now _)
      simp only [kimberlitelaw03_CurveBack.l0]
      rw [if_neg hl, at_law c, Option.bind_some, atR_out hx]
      rfl
  | n + 1, i, hi', hall => by
    have hl : (i : Int) < (c.f2.length : Int) := by omega
    have h0 : 0 ≤ (i : Int) := by omega
    have h5 := (vc_parts vc).2.2.2.2.1
    have ew : wrap64 ((i : Int) + 1) = ((i + 1 : Nat) : Int) := by unfold wrap64; omega
    by_cases h1 : rd c.f2 (i : Int) < lo
    · refine Ev.two (f := fun _ => some true) (fun k => ?_) (Ev.now _)
      simp only [kimberlitelaw03_CurveBack.l0]
      rw [if_pos hl, if_pos h0, if_pos h1]
      simp only [kimberlitelaw03_CurveBack.j2]
      rw [if_pos trivial]
      rfl
    · by_cases h2 : rd c.f2 (i : Int) > hi
      · refine Ev.two (f := fun _ => some true) (fun k => ?_) (Ev.now _)
        simp only [kimberlitelaw03_CurveBack.l0]
        rw [if_pos hl, if_pos h0, if_neg h1, decide_eq_true h2]
        simp only [kimberlitelaw03_CurveBack.j2]
        rw [if_pos trivial]
        rfl
      · refine Ev.two (fun k => ?_) (back_l0 (x := x) vc hb vd n (i + 1) (by clear ew; omega) (fun j hj => ?_))
        · simp only [kimberlitelaw03_CurveBack.l0]
          rw [if_pos hl, if_pos h0, if_neg h1, decide_eq_false h2]
          simp only [kimberlitelaw03_CurveBack.j2]
          rw [if_neg (by simp), ew]
        · by_cases e : j = i
          · subst e; clear ew; omega
          · exact hall j (by clear ew; omega)
theorem CurveBack_pure (c : S24) (lo hi x : Int) : ∃ k, kimberlitelaw03_CurveBack.f k c.f0 c.f1 c.f2 lo hi x = some true := by
  refine Ev.rounds ?_
  unfold kimberlitelaw03_CurveBack.f
  have skip : ∀ d0 d1 (d2 : List Int), Ev (fun k => kimberlitelaw03_CurveBack.j0 k lo hi x true c.f0 c.f1 c.f2 d0 d1 d2) true := fun d0 d1 d2 =>
    Ev.step (f := fun _ => some true) (fun k => by simp only [kimberlitelaw03_CurveBack.j0]; rw [if_pos trivial]; rfl) (Ev.now _)
  refine Ev.bind (Conj_ev c lo hi) ?_
  unfold conR
  by_cases ok : conOk c lo hi
  · rw [if_pos ok]
    by_cases vd : Vc (conC c lo (hi - lo).toNat)
    · rw [if_pos vd]
      refine Ev.congr (fun k => if_pos rfl) ?_
      rw [valid_f c]
      refine Ev.congr (fun k => Option.bind_some _ _) ?_
      rw [decide_eq_true ok.1]
      obtain ⟨vc, o1, o2, o3, o4⟩ := ok
      have h := back_l0 (x := x) vc ⟨o1, o4, o2⟩ vd c.f2.length 0 (by omega) (fun j hj => by omega)
      refine Ev.step (fun k => ?_) h
      simp only [kimberlitelaw03_CurveBack.j0]
      rw [if_neg (by simp)]
      rfl
    · rw [if_neg vd]
      exact Ev.congr (fun k => if_neg (by decide)) (skip _ _ _)
  · rw [if_neg ok]
    exact Ev.congr (fun k => if_neg (by decide)) (skip _ _ _)
theorem CurveBack_walk {W : World} (x0 : S24) (a0 : Option Addr) (cap0 : Nat) (c0 : x0.f2.length ≤ cap0) (hr0 : Kd.C (Kd.int .i64) W a0 x0.f2.length x0.f2) (w0 : okC x0) (a1 : Int) (b1 : (Lit.int .i64 a1).wf = true) (a2 : Int) (b2 : (Lit.int .i64 a2).wf = true) (a3 : Int) (b3 : (Lit.int .i64 a3).wf = true) :
    Calls Try.prog 10 #[.agg #[.int .i64 x0.f0, .int .i64 x0.f1, .slice a0 x0.f2.length cap0], .int .i64 a1, .int .i64 a2, .int .i64 a3] W fun e w' => e = .returned (.bool true) ∧ Below W.heap.size W w' := by
  obtain ⟨k, h⟩ := CurveBack_pure x0 a1 a2 a3
  exact kimberlitelaw03_CurveBack.calls k _ _ _ _ x0.f2 a1 a2 a3 true W hr0 c0 h
end Go.Proofs.Ytingjpcgehgiiaa.Pr
end
section
namespace Go.Proofs.Ytingjpcgehgiiaa.curveBack
open Go.ChangeShapes Go.WideShapes Go.ChangeAt Go.RowKit Go.Proofs.Ytingjpcgehgiiaa.Pr
set_option linter.unusedVariables false
theorem own : ownKnob Try.prog.godebug = none := by kernel_rfl
theorem laidOut : laidOutB Try.prog = true := by kernel_rfl
set_option maxRecDepth 100000 in
theorem lifted (os : Os) (started : os.Started) (H : Type) (enc : TypeId × Value → H) :
    ReturnsInHanded {} Try.checked os 10 .any (Rows.curveBackSpec.pre6 enc Try.prog Try.f10 Rows.curveBackRow.domain false) (Rows.curveBackSpec.post enc Try.prog Try.f10 false true false false) := by
  refine returnsInHanded_of_change (C := Try.checked) own started (by kernel_rfl) Try.func10
    (ChangeSpec.witness6 (enc := enc) (C := Try.checked) false ⟨#[], #[.agg #[.int .i64 0, .int .i64 0, .slice none 0 0], .int .i64 0, .int .i64 0, .int .i64 0], []⟩ 8 (by kernel_rfl) (by kernel_rfl) (by kernel_rfl) (by kernel_rfl)) ?_
  intro W base args ds gs before hval0 hW hcnd _
  have hval : ∀ (j : Nat) t v, Try.f10.params[j]? = some t → args[j]? = some v → Value.okWide Try.prog W .any base t v := hval0
  have hW' := hW
  obtain ⟨p, q, hA0, hV, rfl, hfz, hnd⟩ := hW
  have hA : DataW.TrodAll enc Try.prog W 0 (fun _ => true) true Try.f10.params.toList args.toList ds p := hA0
  rw [Try.params10] at hA hval
  obtain ⟨v0, vs0, d0, ds0, p0, q0, hargs, rfl, rfl, h0, r0⟩ := trodAll_cons hA
  obtain ⟨v1, vs1, d1, ds1, p1, q1, rfl, rfl, rfl, h1, r1⟩ := trodAll_cons r0
  obtain ⟨v2, vs2, d2, ds2, p2, q2, rfl, rfl, rfl, h2, r2⟩ := trodAll_cons r1
  obtain ⟨v3, vs3, d3, ds3, p3, q3, rfl, rfl, rfl, h3, r3⟩ := trodAll_cons r2
  obtain ⟨rfl, rfl, rfl⟩ := trodAll_nil r3
  obtain rfl : args = #[v0, v1, v2, v3] := by cases args; simp_all
  obtain ⟨rfl, rfl⟩ := trodVars_none hV
  have k0 := h0
  have lt0 : ∀ x ∈ p0, x.block < W.heap.size := by obtain ⟨m, hm⟩ := k0; exact DataW.trod_lt m _ _ _ hm
  obtain ⟨x0, a0, cap0, rfl, c0, hr0, w0⟩ := open_curve (hval 0 24 v0 rfl rfl) h0
  obtain ⟨a1, rfl, rfl, rfl, w1⟩ := open_int Try.underlying3 (hval 1 3 v1 rfl rfl) h1
  obtain ⟨a2, rfl, rfl, rfl, w2⟩ := open_int Try.underlying3 (hval 2 3 v2 rfl rfl) h2
  obtain ⟨a3, rfl, rfl, rfl, w3⟩ := open_int Try.underlying3 (hval 3 3 v3 rfl rfl) h3
  clear hA0 hval0
  try simp only [List.append_nil] at hW'
  refine (CurveBack_walk x0 a0 cap0 c0 hr0 w0 a1 w1 a2 w2 a3 w3).mono fun e W' ⟨he, bel⟩ => ?_
  subst he
  exact ⟨_, rfl, _, _, _, [], _, [], hW', trodAll_mk1 (shut_bool Try.underlying4 _), (trodAll_cons_mk (Below.trod laidOut (by kernel_rfl) (of_decide_eq_true (by kernel_rfl)) k0 bel lt0) (trodAll_cons_mk (shut_int Try.underlying3 w1) (trodAll_cons_mk (shut_int Try.underlying3 w2) (trodAll_cons_mk (shut_int Try.underlying3 w3) trodAll_mk0)))), rfl, bel.frame _, fun h => by cases h⟩
theorem over : Rows.curveBackRow.holds Try.pinned (OpenSpec.ofChange Rows.curveBackSpec) :=
  OpenClaim.holds_of_wide 10 Try.f10 rfl rfl rfl rfl rfl rfl rfl ⟨rfl, rfl, rfl, rfl, rfl⟩ rfl rfl rfl rfl rfl (by kernel_rfl) Try.func10 (by kernel_rfl)
    (of_decide_eq_true (by kernel_rfl)) (by unfold Func.isWrapper; first | (rw [if_pos (by decide +kernel)]; kernel_rfl) | (rw [if_neg (by decide +kernel)]; exact ⟨rfl, rfl⟩))
    (fun os started H enc _ => lifted os started H enc)
theorem proved : Rows.CurveBackSaid := over
end Go.Proofs.Ytingjpcgehgiiaa.curveBack
namespace Go.Proofs.Ytingjpcgehgiiaa
/-- The row, under a short name, for the claim. -/
theorem curveBack_holds : Rows.CurveBackSaid := curveBack.proved
end Go.Proofs.Ytingjpcgehgiiaa
end
