/- What the proof of the law needs, trimmed and merged by wip/pack.py out of the texts YtningpmoojnomaaPrx34, YtningpmoojnomaaAlive, YtningpmoojnomaaArgs, YtningpmoojnomaaWalkSpanMet, YtningpmoojnomaaRowSpanMet. No condition. -/
import Derived.Deep.Slices
import Derived.Deep.Fields
import Derived.ChangeSame
import Derived.Lib.SmallJoins
import Derived.OpenShut
import Derived.Test.YtningpmoojnomaaRows
import Derived.WalkKit
import Derived.ProofKit
import Derived.ShutString
import Derived.ChangeOld
import Derived.Below
import Derived.SizedLaws
import Derived.Test.YtningpmoojnomaaKSpanMet0
import Derived.Test.YtningpmoojnomaaKSpanMet1
import Derived.Test.YtningpmoojnomaaKSpanMet2
import Derived.Test.YtningpmoojnomaaKSpanMet3
import Derived.Test.YtningpmoojnomaaKSpanMet4
import Derived.Test.YtningpmoojnomaaKSpanMet5
import Derived.Test.YtningpmoojnomaaKSpanMet6
section
namespace Go.Proofs.Ytningpmoojnomaa.Pr
open Go.RowKit Go.Proofs.YtningpmoojnomaaW.PrintWords Go.Proofs.YtningpmoojnomaaW.PrintLast Go.Proofs.YtningpmoojnomaaW.PrintMore
attribute [local go_sem] max2_int min2_int max_two min_two max_three min_three max_four min_four   -- for this text's walks alone
set_option linter.unusedVariables false
set_option linter.unusedSimpArgs false
mutual
def kimberlitelaw01_SpanMet.j0 : Nat → List (S32) → List Int → Bool → Option (Bool)
 | 0, _, _, _ => none
 | k + 1, x0, x1, x18 => if x18 = true then ((kimberlitelaw01_alive.f k).bind fun t497 => (some t497)) else ((span_Stab.f x0).bind fun bt498 => ((span_Disjoint.f x0).bind fun bt502 => (if bt498.2 = 0 then (kimberlitelaw01_SpanMet.j1 k x0 x1 bt498.1 bt498.2 bt502.1 bt502.2 (bt502.2 != 0)) else (kimberlitelaw01_SpanMet.j1 k x0 x1 bt498.1 bt498.2 bt502.1 bt502.2 true))))
def kimberlitelaw01_SpanMet.j1 : Nat → List (S32) → List Int → List Int → Int → List Int → Int → Bool → Option (Bool)
 | 0, _, _, _, _, _, _, _ => none
 | k + 1, x0, x1, x5, x6, x7, x8, x35 => if x35 = true then (if x6 = x8 then (if (wrap64 ((x5.length : Int) + (x7.length : Int))) = 0 then ((kimberlitelaw01_alive.f k).bind fun t506 => (some t506)) else (some false)) else (some false)) else (if (x5.length : Int) = (x7.length : Int) then ((kimberlitelaw01_meets.f k x0 x5).bind fun t507 => (kimberlitelaw01_SpanMet.j2 k x0 x1 x5 x7 (!t507))) else (kimberlitelaw01_SpanMet.j2 k x0 x1 x5 x7 true))
def kimberlitelaw01_SpanMet.j2 : Nat → List (S32) → List Int → List Int → List Int → Bool → Option (Bool)
 | 0, _, _, _, _, _ => none
 | k + 1, x0, x1, x5, x7, x60 => if x60 = true then (some false) else (kimberlitelaw01_SpanMet.l0 k x0 x1 x5 x7 0)
def kimberlitelaw01_SpanMet.l0 : Nat → List (S32) → List Int → List Int → List Int → Int → Option (Bool)
 | 0, _, _, _, _, _ => none
 | k + 1, x0, x1, x5, x7, x9 => if x9 < (x7.length : Int) then (if 0 ≤ x9 then (if (rd x7 x9) < 0 then (kimberlitelaw01_SpanMet.j4 k x0 x1 x5 x7 x9 true) else (if (rd x7 x9) ≥ (x0.length : Int) then (kimberlitelaw01_SpanMet.j4 k x0 x1 x5 x7 x9 true) else (if x9 > 0 then (if 0 ≤ (wrap64 (x9 - 1)) then (if (wrap64 (x9 - 1)) < (x5.length : Int) then (if x9 < (x5.length : Int) then (kimberlitelaw01_SpanMet.j4 k x0 x1 x5 x7 x9 (decide ((rd x5 (wrap64 (x9 - 1))) ≥ (rd x5 x9)))) else (none)) else (none)) else (none)) else (kimberlitelaw01_SpanMet.j4 k x0 x1 x5 x7 x9 false)))) else (none)) else (if (x1.length : Int) ≥ (x5.length : Int) then ((kimberlitelaw01_alive.f k).bind fun t520 => (some t520)) else ((kimberlitelaw01_meets.f k x0 x1).bind fun t521 => (if t521 = true then (some false) else ((kimberlitelaw01_alive.f k).bind fun t522 => (some t522)))))
def kimberlitelaw01_SpanMet.j4 : Nat → List (S32) → List Int → List Int → List Int → Int → Bool → Option (Bool)
 | 0, _, _, _, _, _, _ => none
 | k + 1, x0, x1, x5, x7, x9, x96 => if x96 = true then (some false) else (kimberlitelaw01_SpanMet.l1 k x0 x1 x5 x7 x9 0)
def kimberlitelaw01_SpanMet.l1 : Nat → List (S32) → List Int → List Int → List Int → Int → Int → Option (Bool)
 | 0, _, _, _, _, _, _ => none
 | k + 1, x0, x1, x5, x7, x9, x10 => if x10 < x9 then (if 0 ≤ x9 then (if x9 < (x7.length : Int) then (if 0 ≤ (rd x7 x9) then (if (rd x7 x9) < (x0.length : Int) then (if 0 ≤ x10 then (if x10 < (x7.length : Int) then (if 0 ≤ (rd x7 x10) then (if (rd x7 x10) < (x0.length : Int) then (if ((rd_T32 x0 (rd x7 x9)).f0) < ((rd_T32 x0 (rd x7 x10)).f1) then (kimberlitelaw01_SpanMet.j6 k x0 x1 x5 x7 x9 x10 (decide (((rd_T32 x0 (rd x7 x10)).f0) < ((rd_T32 x0 (rd x7 x9)).f1)))) else (kimberlitelaw01_SpanMet.j6 k x0 x1 x5 x7 x9 x10 false)) else (none)) else (none)) else (none)) else (none)) else (none)) else (none)) else (none)) else (none)) else (kimberlitelaw01_SpanMet.l0 k x0 x1 x5 x7 (wrap64 (x9 + 1)))
def kimberlitelaw01_SpanMet.j6 : Nat → List (S32) → List Int → List Int → List Int → Int → Int → Bool → Option (Bool)
 | 0, _, _, _, _, _, _, _ => none
 | k + 1, x0, x1, x5, x7, x9, x10, x137 => if x137 = true then (some false) else (kimberlitelaw01_SpanMet.l1 k x0 x1 x5 x7 x9 (wrap64 (x10 + 1)))
end
def kimberlitelaw01_SpanMet.f (k : Nat) (l0 : List (S32)) (l1 : List Int) : Option (Bool) := if (l0.length : Int) > 128 then (kimberlitelaw01_SpanMet.j0 k l0 l1 true) else (kimberlitelaw01_SpanMet.j0 k l0 l1 (decide ((l1.length : Int) > 200)))
theorem kimberlitelaw01_SpanMet.mono_l : ∀ k, (∀ y0 y1 y2, LeO (kimberlitelaw01_SpanMet.j0 k y0 y1 y2) (kimberlitelaw01_SpanMet.j0 (k + 1) y0 y1 y2)) ∧ (∀ y0 y1 y2 y3 y4 y5 y6, LeO (kimberlitelaw01_SpanMet.j1 k y0 y1 y2 y3 y4 y5 y6) (kimberlitelaw01_SpanMet.j1 (k + 1) y0 y1 y2 y3 y4 y5 y6)) ∧ (∀ y0 y1 y2 y3 y4, LeO (kimberlitelaw01_SpanMet.j2 k y0 y1 y2 y3 y4) (kimberlitelaw01_SpanMet.j2 (k + 1) y0 y1 y2 y3 y4)) ∧ (∀ y0 y1 y2 y3 y4, LeO (kimberlitelaw01_SpanMet.l0 k y0 y1 y2 y3 y4) (kimberlitelaw01_SpanMet.l0 (k + 1) y0 y1 y2 y3 y4)) ∧ (∀ y0 y1 y2 y3 y4 y5, LeO (kimberlitelaw01_SpanMet.j4 k y0 y1 y2 y3 y4 y5) (kimberlitelaw01_SpanMet.j4 (k + 1) y0 y1 y2 y3 y4 y5)) ∧ (∀ y0 y1 y2 y3 y4 y5, LeO (kimberlitelaw01_SpanMet.l1 k y0 y1 y2 y3 y4 y5) (kimberlitelaw01_SpanMet.l1 (k + 1) y0 y1 y2 y3 y4 y5)) ∧ (∀ y0 y1 y2 y3 y4 y5 y6, LeO (kimberlitelaw01_SpanMet.j6 k y0 y1 y2 y3 y4 y5 y6) (kimberlitelaw01_SpanMet.j6 (k + 1) y0 y1 y2 y3 y4 y5 y6))
 | 0 => ⟨fun _ _ _ r h => by simp [kimberlitelaw01_SpanMet.j0] at h, fun _ _ _ _ _ _ _ r h => by simp [kimberlitelaw01_SpanMet.j1] at h, fun _ _ _ _ _ r h => by simp [kimberlitelaw01_SpanMet.j2] at h, fun _ _ _ _ _ r h => by simp [kimberlitelaw01_SpanMet.l0] at h, fun _ _ _ _ _ _ r h => by simp [kimberlitelaw01_SpanMet.j4] at h, fun _ _ _ _ _ _ r h => by simp [kimberlitelaw01_SpanMet.l1] at h, fun _ _ _ _ _ _ _ r h => by simp [kimberlitelaw01_SpanMet.j6] at h⟩
 | k + 1 => by
  obtain ⟨ih0, ih1, ih2, ih3, ih4, ih5, ih6⟩ := kimberlitelaw01_SpanMet.mono_l k
  refine ⟨?_, ?_, ?_, ?_, ?_, ?_, ?_⟩
  · intro y0 y1 y2
    unfold kimberlitelaw01_SpanMet.j0
    repeat' first
    | (with_reducible exact ih0 _ _ _)
    | (with_reducible exact ih1 _ _ _ _ _ _ _)
    | (with_reducible exact ih2 _ _ _ _ _)
    | (with_reducible exact ih3 _ _ _ _ _)
    | (with_reducible exact ih4 _ _ _ _ _ _)
    | (with_reducible exact ih5 _ _ _ _ _ _)
    | (with_reducible exact ih6 _ _ _ _ _ _ _)
    | (with_reducible exact kimberlitelaw01_alive.mono _)
    | (with_reducible exact kimberlitelaw01_meets.mono _ _ _)
    | (with_reducible exact LeO.refl _)
    | (with_reducible exact LeO.none _)
    | (with_reducible refine LeO.ite ?_ ?_)
    | (with_reducible refine LeO.bind ?_ (fun _ => ?_))
    | exact ih0 _ _ _
    | exact ih1 _ _ _ _ _ _ _
    | exact ih2 _ _ _ _ _
    | exact ih3 _ _ _ _ _
    | exact ih4 _ _ _ _ _ _
    | exact ih5 _ _ _ _ _ _
    | exact ih6 _ _ _ _ _ _ _
    | exact kimberlitelaw01_alive.mono _
    | exact kimberlitelaw01_meets.mono _ _ _
    | exact LeO.none _
    | refine LeO.ite ?_ ?_
    | refine LeO.bind ?_ (fun _ => ?_)
  · intro y0 y1 y2 y3 y4 y5 y6
    unfold kimberlitelaw01_SpanMet.j1
    repeat' first
    | (with_reducible exact ih0 _ _ _)
    | (with_reducible exact ih1 _ _ _ _ _ _ _)
    | (with_reducible exact ih2 _ _ _ _ _)
    | (with_reducible exact ih3 _ _ _ _ _)
    | (with_reducible exact ih4 _ _ _ _ _ _)
    | (with_reducible exact ih5 _ _ _ _ _ _)
    | (with_reducible exact ih6 _ _ _ _ _ _ _)
    | (with_reducible exact kimberlitelaw01_alive.mono _)
    | (with_reducible exact kimberlitelaw01_meets.mono _ _ _)
    | (with_reducible exact LeO.refl _)
    | (with_reducible exact LeO.none _)
    | (with_reducible refine LeO.ite ?_ ?_)
    | (with_reducible refine LeO.bind ?_ (fun _ => ?_))
    | exact ih0 _ _ _
    | exact ih1 _ _ _ _ _ _ _
    | exact ih2 _ _ _ _ _
    | exact ih3 _ _ _ _ _
    | exact ih4 _ _ _ _ _ _
    | exact ih5 _ _ _ _ _ _
    | exact ih6 _ _ _ _ _ _ _
    | exact kimberlitelaw01_alive.mono _
    | exact kimberlitelaw01_meets.mono _ _ _
    | exact LeO.none _
    | refine LeO.ite ?_ ?_
    | refine LeO.bind ?_ (fun _ => ?_)
  · intro y0 y1 y2 y3 y4
    unfold kimberlitelaw01_SpanMet.j2
    repeat' first
    | (with_reducible exact ih0 _ _ _)
    | (with_reducible exact ih1 _ _ _ _ _ _ _)
    | (with_reducible exact ih2 _ _ _ _ _)
    | (with_reducible exact ih3 _ _ _ _ _)
    | (with_reducible exact ih4 _ _ _ _ _ _)
    | (with_reducible exact ih5 _ _ _ _ _ _)
    | (with_reducible exact ih6 _ _ _ _ _ _ _)
    | (with_reducible exact kimberlitelaw01_alive.mono _)
    | (with_reducible exact kimberlitelaw01_meets.mono _ _ _)
    | (with_reducible exact LeO.refl _)
    | (with_reducible exact LeO.none _)
    | (with_reducible refine LeO.ite ?_ ?_)
    | (with_reducible refine LeO.bind ?_ (fun _ => ?_))
    | exact ih0 _ _ _
    | exact ih1 _ _ _ _ _ _ _
    | exact ih2 _ _ _ _ _
    | exact ih3 _ _ _ _ _
    | exact ih4 _ _ _ _ _ _
    | exact ih5 _ _ _ _ _ _
    | exact ih6 _ _ _ _ _ _ _
    | exact kimberlitelaw01_alive.mono _
    | exact kimberlitelaw01_meets.mono _ _ _
    | exact LeO.none _
    | refine LeO.ite ?_ ?_
    | refine LeO.bind ?_ (fun _ => ?_)
  · intro y0 y1 y2 y3 y4
    unfold kimberlitelaw01_SpanMet.l0
    repeat' first
    | (with_reducible exact ih0 _ _ _)
    | (with_reducible exact ih1 _ _ _ _ _ _ _)
    | (with_reducible exact ih2 _ _ _ _ _)
    | (with_reducible exact ih3 _ _ _ _ _)
    | (with_reducible exact ih4 _ _ _ _ _ _)
    | (with_reducible exact ih5 _ _ _ _ _ _)
    | (with_reducible exact ih6 _ _ _ _ _ _ _)
    | (with_reducible exact kimberlitelaw01_alive.mono _)
    | (with_reducible exact kimberlitelaw01_meets.mono _ _ _)
    | (with_reducible exact LeO.refl _)
    | (with_reducible exact LeO.none _)
    | (with_reducible refine LeO.ite ?_ ?_)
    | (with_reducible refine LeO.bind ?_ (fun _ => ?_))
    | exact ih0 _ _ _
    | exact ih1 _ _ _ _ _ _ _
    | exact ih2 _ _ _ _ _
    | exact ih3 _ _ _ _ _
    | exact ih4 _ _ _ _ _ _
    | exact ih5 _ _ _ _ _ _
    | exact ih6 _ _ _ _ _ _ _
    | exact kimberlitelaw01_alive.mono _
    | exact kimberlitelaw01_meets.mono _ _ _
    | exact LeO.none _
    | refine LeO.ite ?_ ?_
    | refine LeO.bind ?_ (fun _ => ?_)
  · intro y0 y1 y2 y3 y4 y5
    unfold kimberlitelaw01_SpanMet.j4
    repeat' first
    | (with_reducible exact ih0 _ _ _)
    | (with_reducible exact ih1 _ _ _ _ _ _ _)
    | (with_reducible exact ih2 _ _ _ _ _)
    | (with_reducible exact ih3 _ _ _ _ _)
    | (with_reducible exact ih4 _ _ _ _ _ _)
    | (with_reducible exact ih5 _ _ _ _ _ _)
    | (with_reducible exact ih6 _ _ _ _ _ _ _)
    | (with_reducible exact kimberlitelaw01_alive.mono _)
    | (with_reducible exact kimberlitelaw01_meets.mono _ _ _)
    | (with_reducible exact LeO.refl _)
    | (with_reducible exact LeO.none _)
    | (with_reducible refine LeO.ite ?_ ?_)
    | (with_reducible refine LeO.bind ?_ (fun _ => ?_))
    | exact ih0 _ _ _
    | exact ih1 _ _ _ _ _ _ _
    | exact ih2 _ _ _ _ _
    | exact ih3 _ _ _ _ _
    | exact ih4 _ _ _ _ _ _
    | exact ih5 _ _ _ _ _ _
    | exact ih6 _ _ _ _ _ _ _
    | exact kimberlitelaw01_alive.mono _
    | exact kimberlitelaw01_meets.mono _ _ _
    | exact LeO.none _
    | refine LeO.ite ?_ ?_
    | refine LeO.bind ?_ (fun _ => ?_)
  · intro y0 y1 y2 y3 y4 y5
    unfold kimberlitelaw01_SpanMet.l1
    repeat' first
    | (with_reducible exact ih0 _ _ _)
    | (with_reducible exact ih1 _ _ _ _ _ _ _)
    | (with_reducible exact ih2 _ _ _ _ _)
    | (with_reducible exact ih3 _ _ _ _ _)
    | (with_reducible exact ih4 _ _ _ _ _ _)
    | (with_reducible exact ih5 _ _ _ _ _ _)
    | (with_reducible exact ih6 _ _ _ _ _ _ _)
    | (with_reducible exact kimberlitelaw01_alive.mono _)
    | (with_reducible exact kimberlitelaw01_meets.mono _ _ _)
    | (with_reducible exact LeO.refl _)
    | (with_reducible exact LeO.none _)
    | (with_reducible refine LeO.ite ?_ ?_)
    | (with_reducible refine LeO.bind ?_ (fun _ => ?_))
    | exact ih0 _ _ _
    | exact ih1 _ _ _ _ _ _ _
    | exact ih2 _ _ _ _ _
    | exact ih3 _ _ _ _ _
    | exact ih4 _ _ _ _ _ _
    | exact ih5 _ _ _ _ _ _
    | exact ih6 _ _ _ _ _ _ _
    | exact kimberlitelaw01_alive.mono _
    | exact kimberlitelaw01_meets.mono _ _ _
    | exact LeO.none _
    | refine LeO.ite ?_ ?_
    | refine LeO.bind ?_ (fun _ => ?_)
  · intro y0 y1 y2 y3 y4 y5 y6
    unfold kimberlitelaw01_SpanMet.j6
    repeat' first
    | (with_reducible exact ih0 _ _ _)
    | (with_reducible exact ih1 _ _ _ _ _ _ _)
    | (with_reducible exact ih2 _ _ _ _ _)
    | (with_reducible exact ih3 _ _ _ _ _)
    | (with_reducible exact ih4 _ _ _ _ _ _)
    | (with_reducible exact ih5 _ _ _ _ _ _)
    | (with_reducible exact ih6 _ _ _ _ _ _ _)
    | (with_reducible exact kimberlitelaw01_alive.mono _)
    | (with_reducible exact kimberlitelaw01_meets.mono _ _ _)
    | (with_reducible exact LeO.refl _)
    | (with_reducible exact LeO.none _)
    | (with_reducible refine LeO.ite ?_ ?_)
    | (with_reducible refine LeO.bind ?_ (fun _ => ?_))
    | exact ih0 _ _ _
    | exact ih1 _ _ _ _ _ _ _
    | exact ih2 _ _ _ _ _
    | exact ih3 _ _ _ _ _
    | exact ih4 _ _ _ _ _ _
    | exact ih5 _ _ _ _ _ _
    | exact ih6 _ _ _ _ _ _ _
    | exact kimberlitelaw01_alive.mono _
    | exact kimberlitelaw01_meets.mono _ _ _
    | exact LeO.none _
    | refine LeO.ite ?_ ?_
    | refine LeO.bind ?_ (fun _ => ?_)
theorem kimberlitelaw01_SpanMet.mono : ∀ a0 a1 k, LeO (kimberlitelaw01_SpanMet.f k a0 a1) (kimberlitelaw01_SpanMet.f (k + 1) a0 a1) := by
 intro a0 a1 k
 obtain ⟨ih0, ih1, ih2, ih3, ih4, ih5, ih6⟩ := kimberlitelaw01_SpanMet.mono_l k
 unfold kimberlitelaw01_SpanMet.f
 repeat' first
  | (with_reducible exact ih0 _ _ _)
  | (with_reducible exact ih1 _ _ _ _ _ _ _)
  | (with_reducible exact ih2 _ _ _ _ _)
  | (with_reducible exact ih3 _ _ _ _ _)
  | (with_reducible exact ih4 _ _ _ _ _ _)
  | (with_reducible exact ih5 _ _ _ _ _ _)
  | (with_reducible exact ih6 _ _ _ _ _ _ _)
  | (with_reducible exact kimberlitelaw01_alive.mono _)
  | (with_reducible exact kimberlitelaw01_meets.mono _ _ _)
  | (with_reducible exact LeO.refl _)
  | (with_reducible exact LeO.none _)
  | (with_reducible refine LeO.ite ?_ ?_)
  | (with_reducible refine LeO.bind ?_ (fun _ => ?_))
  | exact ih0 _ _ _
  | exact ih1 _ _ _ _ _ _ _
  | exact ih2 _ _ _ _ _
  | exact ih3 _ _ _ _ _
  | exact ih4 _ _ _ _ _ _
  | exact ih5 _ _ _ _ _ _
  | exact ih6 _ _ _ _ _ _ _
  | exact kimberlitelaw01_alive.mono _
  | exact kimberlitelaw01_meets.mono _ _ _
  | exact LeO.none _
  | refine LeO.ite ?_ ?_
  | refine LeO.bind ?_ (fun _ => ?_)
set_option maxHeartbeats 8000000 in
set_option maxRecDepth 100000 in
theorem kimberlitelaw01_SpanMet.calls (k : Nat) (A0 : Option Addr) (c0 : Nat) (l0 : List (S32)) (A1 : Option Addr) (c1 : Nat) (l1 : List Int) (r : Bool) (w : World) (hr0 : Kd.C k32 w A0 l0.length l0) (hc0 : l0.length ≤ c0) (hr1 : Kd.C (Kd.int .i64) w A1 l1.length l1) (hc1 : l1.length ≤ c1) (h : kimberlitelaw01_SpanMet.f k l0 l1 = some r) :
 Calls Try.prog 8 #[.slice A0 l0.length c0, .slice A1 l1.length c1] w fun e w' => e = .returned (.bool r) ∧ Below w.heap.size w w' := by
 have HR0 := Aside0.mk hr0
 have HC0 := Aside0.mk hc0
 clear hr0 hc0
 have HR1 := Aside0.mk hr1
 have HC1 := Aside0.mk hc1
 clear hr1 hc1
 have HB := Aside0.mk (Below.refl w.heap.size w)
 have H : (if (l0.length : Int) > 128 then (kimberlitelaw01_SpanMet.j0 k l0 l1 true) else (kimberlitelaw01_SpanMet.j0 k l0 l1 (decide ((l1.length : Int) > 200)))) = some r := h
 clear h
 have HC3 := Aside0.mk H
 clear H
 go_enter Try.func8, Try.ntmps8
 go_upto_region 1 with (fail)
 repeat (go_quiet (fail); go_upto_region 1 with (fail))
 go_cut [18] (fun v18 wc => ∃ (kq : Nat) (x18_2 : Bool), v18 = .bool x18_2 ∧ Aside0 (kimberlitelaw01_SpanMet.j0 kq l0 l1 x18_2 = some r) ∧ Aside0 (kq ≤ k) ∧ Aside0 (Below w.heap.size w wc))
 case first =>
  have H := HC3.out
  clear HC3
  by_cases c4 : (l0.length : Int) > 128
  · rw [if_pos c4] at H
    have c4b0 : decide (128 < (l0.length : Int)) = true := decide_eq_true c4
    have c4b1 : decide (128 < l0.length) = true := decide_eq_true (by omega)
    clear c4
    (first | rw [c4b0] | (simp only [i64_w, i32_w]; rw [c4b0]) | skip)
    have H' := Aside0.mk H
    clear H
    go_wp2
    repeat (go_quiet (fail); try go_wp2)
    go_meet
    case rel => exact ⟨_, (true), (by first | rfl | (simp; done) | (simp [*]; done)), H', ⟨by first | omega | exact Nat.le_refl _⟩, ⟨by repeat (first | (with_reducible first | exact HB.out | apply below_alloc | apply pw_below_drewN | apply below_drew1) | exact HB.out)⟩⟩
  · rw [if_neg c4] at H
    have c4b0 : decide (128 < (l0.length : Int)) = false := decide_eq_false c4
    have c4b1 : decide (128 < l0.length) = false := decide_eq_false (by omega)
    clear c4
    (first | rw [c4b0] | (simp only [i64_w, i32_w]; rw [c4b0]) | skip)
    have H' := Aside0.mk H
    clear H
    go_wp2
    repeat (go_quiet (fail); try go_wp2)
    go_meet
    case rel => exact ⟨_, (decide ((l1.length : Int) > 200)), (by first | rfl | (simp; done) | (simp [*]; done)), H', ⟨by first | omega | exact Nat.le_refl _⟩, ⟨by repeat (first | (with_reducible first | exact HB.out | apply below_alloc | apply pw_below_drewN | apply below_drew1) | exact HB.out)⟩⟩
 case rest =>
  clear HC3
  try clear c1
  try clear p2
  try clear c4
  try clear c4b0
  try clear c4b1
  obtain ⟨kq, x18_2, rfl, HA, HJ2, HB⟩ := hcut
  cases kq with
  | zero => exact absurd HA.out (by simp [kimberlitelaw01_SpanMet.j0])
  | succ kj2 =>
   have H := HA.out
   clear HA
   simp only [kimberlitelaw01_SpanMet.j0] at H
   by_cases c5 : x18_2 = true
   · subst c5
     have H1 : ((kimberlitelaw01_alive.f kj2).bind fun t497 => (some t497)) = some r := by rw [if_pos rfl] at H; exact H
     clear H
     have H := H1
     clear H1
     replace H := Option.bind_eq_some_iff.mp H
     obtain ⟨t497, A60, H⟩ := H
     replace H : (some t497) = some r := H
     have A6 := Aside0.mk A60
     clear A60
     obtain rfl := Option.some.inj H
     go_wp2_with (first | (go_at_call 16; (with_reducible refine (kimberlitelaw01_alive.calls kj2  t497 _ A6.out).mono ?_); rintro e w7 ⟨rfl, hb⟩; have n0_ := Aside0.mk (below_step (by repeat (first | (with_reducible first | exact HB.out | apply below_alloc | apply pw_below_drewN | apply below_drew1) | exact HB.out)) hb); clear HB; have HB := n0_; clear n0_; (try clear hb); (try clear hb2); (try clear hk); (try clear hi)))
     repeat (go_quiet (first | (go_at_call 16; (with_reducible refine (kimberlitelaw01_alive.calls kj2  t497 _ A6.out).mono ?_); rintro e w7 ⟨rfl, hb⟩; have n0_ := Aside0.mk (below_step (by repeat (first | (with_reducible first | exact HB.out | apply below_alloc | apply pw_below_drewN | apply below_drew1) | exact HB.out)) hb); clear HB; have HB := n0_; clear n0_; (try clear hb); (try clear hb2); (try clear hk); (try clear hi))); try go_wp2_with (first | (go_at_call 16; (with_reducible refine (kimberlitelaw01_alive.calls kj2  t497 _ A6.out).mono ?_); rintro e w7 ⟨rfl, hb⟩; have n0_ := Aside0.mk (below_step (by repeat (first | (with_reducible first | exact HB.out | apply below_alloc | apply pw_below_drewN | apply below_drew1) | exact HB.out)) hb); clear HB; have HB := n0_; clear n0_; (try clear hb); (try clear hb2); (try clear hk); (try clear hi))))
     go_ret
     exact ⟨by first | rfl | (simp [errW_none, errW_some] <;> rfl) | (simp [*, errW_none, errW_some] <;> rfl), by repeat (first | (with_reducible first | exact HB.out | apply below_alloc | apply pw_below_drewN | apply below_drew1) | exact HB.out)⟩
   · replace c5 := Bool.eq_false_iff.mpr c5
     subst c5
     have H1 : ((span_Stab.f l0).bind fun bt498 => ((span_Disjoint.f l0).bind fun bt502 => (if bt498.2 = 0 then (kimberlitelaw01_SpanMet.j1 kj2 l0 l1 bt498.1 bt498.2 bt502.1 bt502.2 (bt502.2 != 0)) else (kimberlitelaw01_SpanMet.j1 kj2 l0 l1 bt498.1 bt498.2 bt502.1 bt502.2 true)))) = some r := by rw [if_neg (show ¬ (false = true) by decide)] at H; exact H
     clear H
     have H := H1
     clear H1
     replace H := Option.bind_eq_some_iff.mp H
     obtain ⟨⟨t498, t499⟩, A80, H⟩ := H
     replace H : ((span_Disjoint.f l0).bind fun bt502 => (if t499 = 0 then (kimberlitelaw01_SpanMet.j1 kj2 l0 l1 t498 t499 bt502.1 bt502.2 (bt502.2 != 0)) else (kimberlitelaw01_SpanMet.j1 kj2 l0 l1 t498 t499 bt502.1 bt502.2 true))) = some r := H
     have A8 := Aside0.mk A80
     clear A80
     replace H := Option.bind_eq_some_iff.mp H
     obtain ⟨⟨t502, t503⟩, A90, H⟩ := H
     replace H : (if t499 = 0 then (kimberlitelaw01_SpanMet.j1 kj2 l0 l1 t498 t499 t502 t503 (t503 != 0)) else (kimberlitelaw01_SpanMet.j1 kj2 l0 l1 t498 t499 t502 t503 true)) = some r := H
     have A9 := Aside0.mk A90
     clear A90
     have HC10 := Aside0.mk H
     clear H
     go_upto_region 5 with (first | (go_at_call 42; (with_reducible refine (span_Stab.calls _ _ l0 t498 t499 _ ?side1 ?side2 A8.out).mono ?_); (case side1 => repeat (first | exact (Kd.C_below HR0.out HB.out) | (with_reducible refine Kd.C_alloc ?_ _) | (with_reducible refine Kd.C_drewN ?_ _) | (with_reducible refine Kd.C_drew ?_))); (case side2 => exact HC0.out); rintro e w11 ⟨v500, rfl, ho0, hb⟩; have n0_ := Aside0.mk (Kd.R_lower ho0 (below_size (by repeat (first | (with_reducible first | exact HB.out | apply below_alloc | apply pw_below_drewN | apply below_drew1) | exact HB.out)))); have n1_ := Aside0.mk (below_step (by repeat (first | (with_reducible first | exact HB.out | apply below_alloc | apply pw_below_drewN | apply below_drew1) | exact HB.out)) hb); clear HB; have HO501 := n0_; have HB := n1_; clear n0_ n1_; (try clear hb); (try clear hb2); (try clear hk); (try clear hi); (try clear ho0)) | (go_at_call 43; (with_reducible refine (span_Disjoint.calls _ _ l0 t502 t503 _ ?side1 ?side2 A9.out).mono ?_); (case side1 => repeat (first | exact (Kd.C_below HR0.out HB.out) | (with_reducible refine Kd.C_alloc ?_ _) | (with_reducible refine Kd.C_drewN ?_ _) | (with_reducible refine Kd.C_drew ?_))); (case side2 => exact HC0.out); rintro e w12 ⟨v504, rfl, ho0, hb⟩; have n0_ := Aside0.mk (Kd.R_elder' (by (with_reducible repeat (first | apply Kd.R_alloc | apply Kd.R_drewN | apply Kd.R_drew)); exact HO501.out) (Kd.R_base ho0) hb); have n1_ := Aside0.mk (Kd.R_lower (Kd.R_new' ho0 (Kd.R_lt (by (with_reducible repeat (first | apply Kd.R_alloc | apply Kd.R_drewN | apply Kd.R_drew)); exact HO501.out))) (below_size (by repeat (first | (with_reducible first | exact HB.out | apply below_alloc | apply pw_below_drewN | apply below_drew1) | exact HB.out)))); have n2_ := Aside0.mk (below_step (by repeat (first | (with_reducible first | exact HB.out | apply below_alloc | apply pw_below_drewN | apply below_drew1) | exact HB.out)) hb); clear HO501; clear HB; have HO501 := n0_; have HO505 := n1_; have HB := n2_; clear n0_ n1_ n2_; (try clear hb); (try clear hb2); (try clear hk); (try clear hi); (try clear ho0)))
     repeat (go_quiet (first | (go_at_call 42; (with_reducible refine (span_Stab.calls _ _ l0 t498 t499 _ ?side1 ?side2 A8.out).mono ?_); (case side1 => repeat (first | exact (Kd.C_below HR0.out HB.out) | (with_reducible refine Kd.C_alloc ?_ _) | (with_reducible refine Kd.C_drewN ?_ _) | (with_reducible refine Kd.C_drew ?_))); (case side2 => exact HC0.out); rintro e w11 ⟨v500, rfl, ho0, hb⟩; have n0_ := Aside0.mk (Kd.R_lower ho0 (below_size (by repeat (first | (with_reducible first | exact HB.out | apply below_alloc | apply pw_below_drewN | apply below_drew1) | exact HB.out)))); have n1_ := Aside0.mk (below_step (by repeat (first | (with_reducible first | exact HB.out | apply below_alloc | apply pw_below_drewN | apply below_drew1) | exact HB.out)) hb); clear HB; have HO501 := n0_; have HB := n1_; clear n0_ n1_; (try clear hb); (try clear hb2); (try clear hk); (try clear hi); (try clear ho0)) | (go_at_call 43; (with_reducible refine (span_Disjoint.calls _ _ l0 t502 t503 _ ?side1 ?side2 A9.out).mono ?_); (case side1 => repeat (first | exact (Kd.C_below HR0.out HB.out) | (with_reducible refine Kd.C_alloc ?_ _) | (with_reducible refine Kd.C_drewN ?_ _) | (with_reducible refine Kd.C_drew ?_))); (case side2 => exact HC0.out); rintro e w12 ⟨v504, rfl, ho0, hb⟩; have n0_ := Aside0.mk (Kd.R_elder' (by (with_reducible repeat (first | apply Kd.R_alloc | apply Kd.R_drewN | apply Kd.R_drew)); exact HO501.out) (Kd.R_base ho0) hb); have n1_ := Aside0.mk (Kd.R_lower (Kd.R_new' ho0 (Kd.R_lt (by (with_reducible repeat (first | apply Kd.R_alloc | apply Kd.R_drewN | apply Kd.R_drew)); exact HO501.out))) (below_size (by repeat (first | (with_reducible first | exact HB.out | apply below_alloc | apply pw_below_drewN | apply below_drew1) | exact HB.out)))); have n2_ := Aside0.mk (below_step (by repeat (first | (with_reducible first | exact HB.out | apply below_alloc | apply pw_below_drewN | apply below_drew1) | exact HB.out)) hb); clear HO501; clear HB; have HO501 := n0_; have HO505 := n1_; have HB := n2_; clear n0_ n1_ n2_; (try clear hb); (try clear hb2); (try clear hk); (try clear hi); (try clear ho0))); go_upto_region 5 with (first | (go_at_call 42; (with_reducible refine (span_Stab.calls _ _ l0 t498 t499 _ ?side1 ?side2 A8.out).mono ?_); (case side1 => repeat (first | exact (Kd.C_below HR0.out HB.out) | (with_reducible refine Kd.C_alloc ?_ _) | (with_reducible refine Kd.C_drewN ?_ _) | (with_reducible refine Kd.C_drew ?_))); (case side2 => exact HC0.out); rintro e w11 ⟨v500, rfl, ho0, hb⟩; have n0_ := Aside0.mk (Kd.R_lower ho0 (below_size (by repeat (first | (with_reducible first | exact HB.out | apply below_alloc | apply pw_below_drewN | apply below_drew1) | exact HB.out)))); have n1_ := Aside0.mk (below_step (by repeat (first | (with_reducible first | exact HB.out | apply below_alloc | apply pw_below_drewN | apply below_drew1) | exact HB.out)) hb); clear HB; have HO501 := n0_; have HB := n1_; clear n0_ n1_; (try clear hb); (try clear hb2); (try clear hk); (try clear hi); (try clear ho0)) | (go_at_call 43; (with_reducible refine (span_Disjoint.calls _ _ l0 t502 t503 _ ?side1 ?side2 A9.out).mono ?_); (case side1 => repeat (first | exact (Kd.C_below HR0.out HB.out) | (with_reducible refine Kd.C_alloc ?_ _) | (with_reducible refine Kd.C_drewN ?_ _) | (with_reducible refine Kd.C_drew ?_))); (case side2 => exact HC0.out); rintro e w12 ⟨v504, rfl, ho0, hb⟩; have n0_ := Aside0.mk (Kd.R_elder' (by (with_reducible repeat (first | apply Kd.R_alloc | apply Kd.R_drewN | apply Kd.R_drew)); exact HO501.out) (Kd.R_base ho0) hb); have n1_ := Aside0.mk (Kd.R_lower (Kd.R_new' ho0 (Kd.R_lt (by (with_reducible repeat (first | apply Kd.R_alloc | apply Kd.R_drewN | apply Kd.R_drew)); exact HO501.out))) (below_size (by repeat (first | (with_reducible first | exact HB.out | apply below_alloc | apply pw_below_drewN | apply below_drew1) | exact HB.out)))); have n2_ := Aside0.mk (below_step (by repeat (first | (with_reducible first | exact HB.out | apply below_alloc | apply pw_below_drewN | apply below_drew1) | exact HB.out)) hb); clear HO501; clear HB; have HO501 := n0_; have HO505 := n1_; have HB := n2_; clear n0_ n1_ n2_; (try clear hb); (try clear hb2); (try clear hk); (try clear hi); (try clear ho0))))
     (try simp only [Act.put, List.setIfInBounds_toArray, List.set_cons_zero, List.set_cons_succ])
     go_cut [35] (fun v35 wc => ∃ (kq : Nat) (x35_9 : Bool), v35 = .bool x35_9 ∧ Aside0 (kimberlitelaw01_SpanMet.j1 kq l0 l1 t498 t499 t502 t503 x35_9 = some r) ∧ Aside0 (kq ≤ kj2) ∧ Aside0 (Kd.R (Kd.int .i64) 3 wc w.heap.size (fun k_ => some k_ ≠ (v504 : Value).ownBlock) v500 t498) ∧ Aside0 (Kd.R (Kd.int .i64) 3 wc w.heap.size (fun k_ => some k_ ≠ (v500 : Value).ownBlock) v504 t502) ∧ Aside0 (Below w.heap.size w wc))
     case first =>
      have H := HC10.out
      clear HC10
      by_cases c13 : t499 = 0
      · rw [if_pos c13] at H
        have c13b0 : (t499 == 0) = true := beq_iff_eq.mpr c13
        have c13b1 : (t499 != 0) = false := bne_eq_false_iff_eq.mpr c13
        clear c13
        (first | rw [c13b0] | (simp only [i64_w, i32_w]; rw [c13b0]) | skip)
        have H' := Aside0.mk H
        clear H
        go_wp2
        repeat (go_quiet (fail); try go_wp2)
        go_meet
        case rel => exact ⟨_, ((t503 != 0)), (by first | rfl | (simp; done) | (simp [*]; done)), H', ⟨by have := HJ2.out; first | omega | exact Nat.le_refl _⟩, ⟨by (with_reducible repeat (first | apply Kd.R_alloc | apply Kd.R_drewN | apply Kd.R_drew)); exact Kd.R_mono HO501.out (fun _ hk => hk.2)⟩, ⟨by (with_reducible repeat (first | apply Kd.R_alloc | apply Kd.R_drewN | apply Kd.R_drew)); exact Kd.R_mono HO505.out (fun _ hk => hk.2)⟩, ⟨by repeat (first | (with_reducible first | exact HB.out | apply below_alloc | apply pw_below_drewN | apply below_drew1) | exact HB.out)⟩⟩
      · rw [if_neg c13] at H
        have c13b0 : (t499 == 0) = false := beq_eq_false_iff_ne.mpr c13
        have c13b1 : (t499 != 0) = true := bne_iff_ne.mpr c13
        (first | rw [c13b0] | (simp only [i64_w, i32_w]; rw [c13b0]) | skip)
        have H' := Aside0.mk H
        clear H
        go_wp2
        repeat (go_quiet (fail); try go_wp2)
        go_meet
        case rel => exact ⟨_, (true), (by first | rfl | (simp; done) | (simp [*]; done)), H', ⟨by have := HJ2.out; first | omega | exact Nat.le_refl _⟩, ⟨by (with_reducible repeat (first | apply Kd.R_alloc | apply Kd.R_drewN | apply Kd.R_drew)); exact Kd.R_mono HO501.out (fun _ hk => hk.2)⟩, ⟨by (with_reducible repeat (first | apply Kd.R_alloc | apply Kd.R_drewN | apply Kd.R_drew)); exact Kd.R_mono HO505.out (fun _ hk => hk.2)⟩, ⟨by repeat (first | (with_reducible first | exact HB.out | apply below_alloc | apply pw_below_drewN | apply below_drew1) | exact HB.out)⟩⟩
     case rest =>
      clear HC10
      try clear c1
      try clear p2
      try clear c4
      try clear c4b0
      try clear c4b1
      try clear c5
      try clear c8
      try clear c13
      try clear c13b0
      try clear c13b1
      try clear p2
      obtain ⟨kq, x35_9, rfl, HA, HJ9, HO_5, HO_7, HB⟩ := hcut
      cases kq with
      | zero => exact absurd HA.out (by simp [kimberlitelaw01_SpanMet.j1])
      | succ kj9 =>
       have H := HA.out
       clear HA
       simp only [kimberlitelaw01_SpanMet.j1] at H
       by_cases c14 : x35_9 = true
       · subst c14
         have H1 : (if t499 = t503 then (if (wrap64 ((t498.length : Int) + (t502.length : Int))) = 0 then ((kimberlitelaw01_alive.f kj9).bind fun t506 => (some t506)) else (some false)) else (some false)) = some r := by rw [if_pos rfl] at H; exact H
         clear H
         have H := H1
         clear H1
         by_cases c15 : t499 = t503
         · rw [if_pos c15] at H
           have c15b0 : (t499 == t503) = true := beq_iff_eq.mpr c15
           have c15b1 : (t499 != t503) = false := bne_eq_false_iff_eq.mpr c15
           clear c15
           by_cases c16 : (wrap64 ((t498.length : Int) + (t502.length : Int))) = 0
           · rw [if_pos c16] at H
             have c16b0 : ((wrap64 ((t498.length : Int) + (t502.length : Int))) == 0) = true := beq_iff_eq.mpr c16
             have c16b1 : ((wrap64 ((t498.length : Int) + (t502.length : Int))) != 0) = false := bne_eq_false_iff_eq.mpr c16
             clear c16
             replace H := Option.bind_eq_some_iff.mp H
             obtain ⟨t506, A170, H⟩ := H
             replace H : (some t506) = some r := H
             have A17 := Aside0.mk A170
             clear A170
             obtain rfl := Option.some.inj H
             obtain ⟨Ao18, co18, eo18⟩ := Kd.R_slice HO_5.out
             subst eo18
             obtain ⟨Ao19, co19, eo19⟩ := Kd.R_slice HO_7.out
             subst eo19
             go_wp2_with (first | (go_at_call 16; (with_reducible refine (kimberlitelaw01_alive.calls kj9  t506 _ A17.out).mono ?_); rintro e w20 ⟨rfl, hb⟩; have n0_ := Aside0.mk (Kd.R_below (by (with_reducible repeat (first | apply Kd.R_alloc | apply Kd.R_drewN | apply Kd.R_drew)); exact HO_5.out) hb); have n1_ := Aside0.mk (Kd.R_below (by (with_reducible repeat (first | apply Kd.R_alloc | apply Kd.R_drewN | apply Kd.R_drew)); exact HO_7.out) hb); have n2_ := Aside0.mk (below_step (by repeat (first | (with_reducible first | exact HB.out | apply below_alloc | apply pw_below_drewN | apply below_drew1) | exact HB.out)) hb); clear HO_5; clear HO_7; clear HB; have HO_5 := n0_; have HO_7 := n1_; have HB := n2_; clear n0_ n1_ n2_; (try clear hb); (try clear hb2); (try clear hk); (try clear hi)))
             repeat (go_quiet (first | (go_at_call 16; (with_reducible refine (kimberlitelaw01_alive.calls kj9  t506 _ A17.out).mono ?_); rintro e w20 ⟨rfl, hb⟩; have n0_ := Aside0.mk (Kd.R_below (by (with_reducible repeat (first | apply Kd.R_alloc | apply Kd.R_drewN | apply Kd.R_drew)); exact HO_5.out) hb); have n1_ := Aside0.mk (Kd.R_below (by (with_reducible repeat (first | apply Kd.R_alloc | apply Kd.R_drewN | apply Kd.R_drew)); exact HO_7.out) hb); have n2_ := Aside0.mk (below_step (by repeat (first | (with_reducible first | exact HB.out | apply below_alloc | apply pw_below_drewN | apply below_drew1) | exact HB.out)) hb); clear HO_5; clear HO_7; clear HB; have HO_5 := n0_; have HO_7 := n1_; have HB := n2_; clear n0_ n1_ n2_; (try clear hb); (try clear hb2); (try clear hk); (try clear hi))); try go_wp2_with (first | (go_at_call 16; (with_reducible refine (kimberlitelaw01_alive.calls kj9  t506 _ A17.out).mono ?_); rintro e w20 ⟨rfl, hb⟩; have n0_ := Aside0.mk (Kd.R_below (by (with_reducible repeat (first | apply Kd.R_alloc | apply Kd.R_drewN | apply Kd.R_drew)); exact HO_5.out) hb); have n1_ := Aside0.mk (Kd.R_below (by (with_reducible repeat (first | apply Kd.R_alloc | apply Kd.R_drewN | apply Kd.R_drew)); exact HO_7.out) hb); have n2_ := Aside0.mk (below_step (by repeat (first | (with_reducible first | exact HB.out | apply below_alloc | apply pw_below_drewN | apply below_drew1) | exact HB.out)) hb); clear HO_5; clear HO_7; clear HB; have HO_5 := n0_; have HO_7 := n1_; have HB := n2_; clear n0_ n1_ n2_; (try clear hb); (try clear hb2); (try clear hk); (try clear hi))))
             go_ret
             exact ⟨by first | rfl | (simp [errW_none, errW_some] <;> rfl) | (simp [*, errW_none, errW_some] <;> rfl), by repeat (first | (with_reducible first | exact HB.out | apply below_alloc | apply pw_below_drewN | apply below_drew1) | exact HB.out)⟩
           · rw [if_neg c16] at H
             have c16b0 : ((wrap64 ((t498.length : Int) + (t502.length : Int))) == 0) = false := beq_eq_false_iff_ne.mpr c16
             have c16b1 : ((wrap64 ((t498.length : Int) + (t502.length : Int))) != 0) = true := bne_iff_ne.mpr c16
             obtain rfl := Option.some.inj H
             obtain ⟨Ao21, co21, eo21⟩ := Kd.R_slice HO_5.out
             subst eo21
             obtain ⟨Ao22, co22, eo22⟩ := Kd.R_slice HO_7.out
             subst eo22
             go_wp2
             repeat (go_quiet (fail); try go_wp2)
             go_ret
             exact ⟨by first | rfl | (simp [errW_none, errW_some] <;> rfl) | (simp [*, errW_none, errW_some] <;> rfl), by repeat (first | (with_reducible first | exact HB.out | apply below_alloc | apply pw_below_drewN | apply below_drew1) | exact HB.out)⟩
         · rw [if_neg c15] at H
           have c15b0 : (t499 == t503) = false := beq_eq_false_iff_ne.mpr c15
           have c15b1 : (t499 != t503) = true := bne_iff_ne.mpr c15
           obtain rfl := Option.some.inj H
           go_wp2
           repeat (go_quiet (fail); try go_wp2)
           go_ret
           exact ⟨by first | rfl | (simp [errW_none, errW_some] <;> rfl) | (simp [*, errW_none, errW_some] <;> rfl), by repeat (first | (with_reducible first | exact HB.out | apply below_alloc | apply pw_below_drewN | apply below_drew1) | exact HB.out)⟩
       · replace c14 := Bool.eq_false_iff.mpr c14
         subst c14
         have H1 : (if (t498.length : Int) = (t502.length : Int) then ((kimberlitelaw01_meets.f kj9 l0 t498).bind fun t507 => (kimberlitelaw01_SpanMet.j2 kj9 l0 l1 t498 t502 (!t507))) else (kimberlitelaw01_SpanMet.j2 kj9 l0 l1 t498 t502 true)) = some r := by rw [if_neg (show ¬ (false = true) by decide)] at H; exact H
         clear H
         have H := H1
         clear H1
         have HC23 := Aside0.mk H
         clear H
         go_upto_region 7 with (fail)
         repeat (go_quiet (fail); go_upto_region 7 with (fail))
         go_cut [60] (fun v60 wc => ∃ (kq : Nat) (x60_22 : Bool), v60 = .bool x60_22 ∧ Aside0 (kimberlitelaw01_SpanMet.j2 kq l0 l1 t498 t502 x60_22 = some r) ∧ Aside0 (kq ≤ kj9) ∧ Aside0 (Kd.R (Kd.int .i64) 3 wc w.heap.size (fun k_ => some k_ ≠ (v504 : Value).ownBlock) v500 t498) ∧ Aside0 (Kd.R (Kd.int .i64) 3 wc w.heap.size (fun k_ => some k_ ≠ (v500 : Value).ownBlock) v504 t502) ∧ Aside0 (Below w.heap.size w wc))
         case first =>
          have H := HC23.out
          clear HC23
          by_cases c24 : (t498.length : Int) = (t502.length : Int)
          · rw [if_pos c24] at H
            have c24b0 : ((t498.length : Int) == (t502.length : Int)) = true := beq_iff_eq.mpr c24
            have c24b1 : ((t498.length : Int) != (t502.length : Int)) = false := bne_eq_false_iff_eq.mpr c24
            have c24b2 : (t498.length == t502.length) = true := by first | simpa using c24 | (simp at c24 ⊢; omega)
            clear c24
            (first | rw [c24b0] | (simp only [i64_w, i32_w]; rw [c24b0]) | skip)
            replace H := Option.bind_eq_some_iff.mp H
            obtain ⟨t507, A250, H⟩ := H
            replace H : (kimberlitelaw01_SpanMet.j2 kj9 l0 l1 t498 t502 (!t507)) = some r := H
            have A25 := Aside0.mk A250
            clear A250
            have H' := Aside0.mk H
            clear H
            obtain ⟨Ao26, co26, eo26⟩ := Kd.R_slice HO_5.out
            subst eo26
            obtain ⟨Ao27, co27, eo27⟩ := Kd.R_slice HO_7.out
            subst eo27
            go_wp2_with (first | (go_at_call 44; (with_reducible refine (kimberlitelaw01_meets.calls kj9 _ _ l0 _ _ t498 t507 _ ?side1 ?side2 ?side3 ?side4 A25.out).mono ?_); (case side1 => repeat (first | exact (Kd.C_below HR0.out HB.out) | (with_reducible refine Kd.C_alloc ?_ _) | (with_reducible refine Kd.C_drewN ?_ _) | (with_reducible refine Kd.C_drew ?_))); (case side2 => exact HC0.out); (case side3 => repeat (first | exact (Kd.R_reads' HO_5.out).2.2 | (with_reducible refine Kd.C_alloc ?_ _) | (with_reducible refine Kd.C_drewN ?_ _) | (with_reducible refine Kd.C_drew ?_))); (case side4 => exact (Kd.R_reads' HO_5.out).2.1); rintro e w' ⟨rfl, ⟨nd, rfl⟩⟩; (try first | exact ⟨rfl, _, World.drewN_drewN _ _ _⟩ | exact ⟨rfl, _, Eq.trans (World.drewN_drewN _ _ _) (congrArg (World.drewN _) (Nat.add_assoc _ _ _))⟩)))
            repeat (go_quiet (first | (go_at_call 44; (with_reducible refine (kimberlitelaw01_meets.calls kj9 _ _ l0 _ _ t498 t507 _ ?side1 ?side2 ?side3 ?side4 A25.out).mono ?_); (case side1 => repeat (first | exact (Kd.C_below HR0.out HB.out) | (with_reducible refine Kd.C_alloc ?_ _) | (with_reducible refine Kd.C_drewN ?_ _) | (with_reducible refine Kd.C_drew ?_))); (case side2 => exact HC0.out); (case side3 => repeat (first | exact (Kd.R_reads' HO_5.out).2.2 | (with_reducible refine Kd.C_alloc ?_ _) | (with_reducible refine Kd.C_drewN ?_ _) | (with_reducible refine Kd.C_drew ?_))); (case side4 => exact (Kd.R_reads' HO_5.out).2.1); rintro e w' ⟨rfl, ⟨nd, rfl⟩⟩; (try first | exact ⟨rfl, _, World.drewN_drewN _ _ _⟩ | exact ⟨rfl, _, Eq.trans (World.drewN_drewN _ _ _) (congrArg (World.drewN _) (Nat.add_assoc _ _ _))⟩))); try go_wp2_with (first | (go_at_call 44; (with_reducible refine (kimberlitelaw01_meets.calls kj9 _ _ l0 _ _ t498 t507 _ ?side1 ?side2 ?side3 ?side4 A25.out).mono ?_); (case side1 => repeat (first | exact (Kd.C_below HR0.out HB.out) | (with_reducible refine Kd.C_alloc ?_ _) | (with_reducible refine Kd.C_drewN ?_ _) | (with_reducible refine Kd.C_drew ?_))); (case side2 => exact HC0.out); (case side3 => repeat (first | exact (Kd.R_reads' HO_5.out).2.2 | (with_reducible refine Kd.C_alloc ?_ _) | (with_reducible refine Kd.C_drewN ?_ _) | (with_reducible refine Kd.C_drew ?_))); (case side4 => exact (Kd.R_reads' HO_5.out).2.1); rintro e w' ⟨rfl, ⟨nd, rfl⟩⟩; (try first | exact ⟨rfl, _, World.drewN_drewN _ _ _⟩ | exact ⟨rfl, _, Eq.trans (World.drewN_drewN _ _ _) (congrArg (World.drewN _) (Nat.add_assoc _ _ _))⟩))))
            go_meet
            case rel => exact ⟨_, (!t507), (by first | rfl | (simp; done) | (simp [*]; done)), H', ⟨by have := HJ2.out; have := HJ9.out; first | omega | exact Nat.le_refl _⟩, ⟨by (with_reducible repeat (first | apply Kd.R_alloc | apply Kd.R_drewN | apply Kd.R_drew)); exact HO_5.out⟩, ⟨by (with_reducible repeat (first | apply Kd.R_alloc | apply Kd.R_drewN | apply Kd.R_drew)); exact HO_7.out⟩, ⟨by repeat (first | (with_reducible first | exact HB.out | apply below_alloc | apply pw_below_drewN | apply below_drew1) | exact HB.out)⟩⟩
          · rw [if_neg c24] at H
            have c24b0 : ((t498.length : Int) == (t502.length : Int)) = false := beq_eq_false_iff_ne.mpr c24
            have c24b1 : ((t498.length : Int) != (t502.length : Int)) = true := bne_iff_ne.mpr c24
            have c24b2 : (t498.length == t502.length) = false := by first | simpa using c24 | (simp at c24 ⊢; omega)
            (first | rw [c24b0] | (simp only [i64_w, i32_w]; rw [c24b0]) | skip)
            have H' := Aside0.mk H
            clear H
            obtain ⟨Ao28, co28, eo28⟩ := Kd.R_slice HO_5.out
            subst eo28
            obtain ⟨Ao29, co29, eo29⟩ := Kd.R_slice HO_7.out
            subst eo29
            go_wp2
            repeat (go_quiet (fail); try go_wp2)
            go_meet
            case rel => exact ⟨_, (true), (by first | rfl | (simp; done) | (simp [*]; done)), H', ⟨by have := HJ2.out; have := HJ9.out; first | omega | exact Nat.le_refl _⟩, ⟨by (with_reducible repeat (first | apply Kd.R_alloc | apply Kd.R_drewN | apply Kd.R_drew)); exact HO_5.out⟩, ⟨by (with_reducible repeat (first | apply Kd.R_alloc | apply Kd.R_drewN | apply Kd.R_drew)); exact HO_7.out⟩, ⟨by repeat (first | (with_reducible first | exact HB.out | apply below_alloc | apply pw_below_drewN | apply below_drew1) | exact HB.out)⟩⟩
         case rest =>
          clear HC23
          try clear c1
          try clear c2
          try clear p2
          try clear c4
          try clear c4b0
          try clear c4b1
          try clear c5
          try clear p6
          try clear c8
          try clear c13
          try clear c13b0
          try clear c13b1
          try clear c14
          try clear c15
          try clear c15b0
          try clear c15b1
          try clear c16
          try clear c16b0
          try clear c16b1
          try clear c24
          try clear c24b0
          try clear c24b1
          try clear c24b2
          try clear p2
          obtain ⟨kq, x60_22, rfl, HA, HJ22, HO_5, HO_7, HB⟩ := hcut
          cases kq with
          | zero => exact absurd HA.out (by simp [kimberlitelaw01_SpanMet.j2])
          | succ kj22 =>
           have H := HA.out
           clear HA
           simp only [kimberlitelaw01_SpanMet.j2] at H
           by_cases c30 : x60_22 = true
           · subst c30
             have H1 : (some false) = some r := by rw [if_pos rfl] at H; exact H
             clear H
             have H := H1
             clear H1
             obtain rfl := Option.some.inj H
             go_wp2
             repeat (go_quiet (fail); try go_wp2)
             go_ret
             exact ⟨by first | rfl | (simp [errW_none, errW_some] <;> rfl) | (simp [*, errW_none, errW_some] <;> rfl), by repeat (first | (with_reducible first | exact HB.out | apply below_alloc | apply pw_below_drewN | apply below_drew1) | exact HB.out)⟩
           · replace c30 := Bool.eq_false_iff.mpr c30
             subst c30
             have H1 : (kimberlitelaw01_SpanMet.l0 kj22 l0 l1 t498 t502 0) = some r := by rw [if_neg (show ¬ (false = true) by decide)] at H; exact H
             clear H
             have H := H1
             clear H1
             have H' := Aside0.mk H
             clear H
             go_wp2
             repeat (go_quiet (fail); try go_wp2)
             go_loopg [9] kj22 (fun kq v9 w' => ∃ (x9_4 : Int), v9 = .int .i64 x9_4 ∧ Aside0 (kimberlitelaw01_SpanMet.l0 kq l0 l1 t498 t502 x9_4 = some r) ∧ Aside0 (kq ≤ kj22) ∧ Aside0 (Kd.R (Kd.int .i64) 3 w' w.heap.size (fun k_ => some k_ ≠ (v504 : Value).ownBlock) v500 t498) ∧ Aside0 (Kd.R (Kd.int .i64) 3 w' w.heap.size (fun k_ => some k_ ≠ (v500 : Value).ownBlock) v504 t502) ∧ Aside0 (Below w.heap.size w w'))
             case atStart => exact ⟨(0), (by first | rfl | (simp; done) | (simp [*]; done)), H', ⟨Nat.le_refl _⟩, ⟨by (with_reducible repeat (first | apply Kd.R_alloc | apply Kd.R_drewN | apply Kd.R_drew)); exact HO_5.out⟩, ⟨by (with_reducible repeat (first | apply Kd.R_alloc | apply Kd.R_drewN | apply Kd.R_drew)); exact HO_7.out⟩, ⟨by repeat (first | (with_reducible first | exact HB.out | apply below_alloc | apply pw_below_drewN | apply below_drew1) | exact HB.out)⟩⟩
             case round =>
              clear H'
              try clear c1
              try clear c2
              try clear p2
              try clear c3
              try clear c4
              try clear c4b0
              try clear c4b1
              try clear c5
              try clear p6
              try clear c8
              try clear c13
              try clear c13b0
              try clear c13b1
              try clear c14
              try clear c15
              try clear c15b0
              try clear c15b1
              try clear c16
              try clear c16b0
              try clear c16b1
              try clear c24
              try clear c24b0
              try clear c24b1
              try clear c24b2
              try clear c30
              try clear p2
              try clear p6
              obtain ⟨x9_4, rfl, HA, HK4, HO_5, HO_7, HB⟩ := hrel
              cases gk with
              | zero => exact absurd HA.out (by simp [kimberlitelaw01_SpanMet.l0])
              | succ k4 =>
               have H := HA.out
               clear HA
               simp only [kimberlitelaw01_SpanMet.l0] at H
               by_cases c31 : x9_4 < (t502.length : Int)
               · rw [if_pos c31] at H
                 have c31b0 : decide (x9_4 < (t502.length : Int)) = true := decide_eq_true c31
                 clear c31
                 have HC32 := Aside0.mk H
                 clear H
                 obtain ⟨Ao33, co33, eo33⟩ := Kd.R_slice HO_7.out
                 subst eo33
                 go_upto_region 12 with (fail)
                 repeat (go_quiet (fail); go_upto_region 12 with (fail))
                 go_cut [96] (fun v96 wc => ∃ (kq : Nat) (x96_31 : Bool), v96 = .bool x96_31 ∧ Aside0 (kimberlitelaw01_SpanMet.j4 kq l0 l1 t498 t502 x9_4 x96_31 = some r) ∧ Aside0 (kq ≤ k4) ∧ Aside0 (Kd.R (Kd.int .i64) 3 wc w.heap.size (fun k_ => some k_ ≠ ((.slice Ao33 t502.length co33) : Value).ownBlock) v500 t498) ∧ Aside0 (Kd.R (Kd.int .i64) 3 wc w.heap.size (fun k_ => some k_ ≠ (v500 : Value).ownBlock) (.slice Ao33 t502.length co33) t502) ∧ Aside0 (Below w.heap.size w wc))
                 case first =>
                  have H := HC32.out
                  clear HC32
                  by_cases c34 : 0 ≤ x9_4
                  · rw [if_pos c34] at H
                    have c34b0 : decide (0 ≤ x9_4) = true := decide_eq_true c34
                    clear c34
                    (first | rw [c34b0] | (simp only [i64_w, i32_w]; rw [c34b0]) | skip)
                    by_cases c35 : (rd t502 x9_4) < 0
                    · rw [if_pos c35] at H
                      have c35b0 : decide ((rd t502 x9_4) < 0) = true := decide_eq_true c35
                      clear c35
                      have H' := Aside0.mk H
                      clear H
                      have p508 : 0 ≤ (x9_4 : Int) := of_decide_eq_true (by first | (with_reducible assumption) | assumption)
                      have q508 : x9_4 < (t502.length : Int) := of_decide_eq_true (by first | (with_reducible assumption) | assumption)
                      obtain ⟨ad508, e508, hx508_0⟩ := Kd.at_int (Kd.R_reads' HO_7.out).2.2 x9_4 p508 q508
                      cases e508
                      replace p508 := eq_true p508
                      replace q508 := eq_true q508
                      go_wp2
                      repeat (go_quiet (fail); try go_wp2)
                      go_meet
                      case rel => exact ⟨_, (true), (by first | rfl | (simp; done) | (simp [*]; done)), H', ⟨by have := HJ2.out; have := HJ9.out; have := HJ22.out; have := HK4.out; first | omega | exact Nat.le_refl _⟩, ⟨by (with_reducible repeat (first | apply Kd.R_alloc | apply Kd.R_drewN | apply Kd.R_drew)); exact HO_5.out⟩, ⟨by (with_reducible repeat (first | apply Kd.R_alloc | apply Kd.R_drewN | apply Kd.R_drew)); exact HO_7.out⟩, ⟨by repeat (first | (with_reducible first | exact HB.out | apply below_alloc | apply pw_below_drewN | apply below_drew1) | exact HB.out)⟩⟩
                    · rw [if_neg c35] at H
                      have c35b0 : decide ((rd t502 x9_4) < 0) = false := decide_eq_false c35
                      clear c35
                      by_cases c36 : (rd t502 x9_4) ≥ (l0.length : Int)
                      · rw [if_pos c36] at H
                        have c36b0 : decide ((l0.length : Int) ≤ (rd t502 x9_4)) = true := decide_eq_true c36
                        clear c36
                        have H' := Aside0.mk H
                        clear H
                        have p508 : 0 ≤ (x9_4 : Int) := of_decide_eq_true (by first | (with_reducible assumption) | assumption)
                        have q508 : x9_4 < (t502.length : Int) := of_decide_eq_true (by first | (with_reducible assumption) | assumption)
                        obtain ⟨ad508, e508, hx508_0⟩ := Kd.at_int (Kd.R_reads' HO_7.out).2.2 x9_4 p508 q508
                        cases e508
                        replace p508 := eq_true p508
                        replace q508 := eq_true q508
                        have p509 : 0 ≤ (x9_4 : Int) := of_decide_eq_true (by first | (with_reducible assumption) | assumption)
                        have q509 : x9_4 < (t502.length : Int) := of_decide_eq_true (by first | (with_reducible assumption) | assumption)
                        obtain ⟨ad509, e509, hx509_0⟩ := Kd.at_int (Kd.R_reads' HO_7.out).2.2 x9_4 p509 q509
                        obtain rfl : ad508 = ad509 := (by injection e509)
                        replace p509 := eq_true p509
                        replace q509 := eq_true q509
                        go_wp2
                        repeat (go_quiet (fail); try go_wp2)
                        go_meet
                        case rel => exact ⟨_, (true), (by first | rfl | (simp; done) | (simp [*]; done)), H', ⟨by have := HJ2.out; have := HJ9.out; have := HJ22.out; have := HK4.out; first | omega | exact Nat.le_refl _⟩, ⟨by (with_reducible repeat (first | apply Kd.R_alloc | apply Kd.R_drewN | apply Kd.R_drew)); exact HO_5.out⟩, ⟨by (with_reducible repeat (first | apply Kd.R_alloc | apply Kd.R_drewN | apply Kd.R_drew)); exact HO_7.out⟩, ⟨by repeat (first | (with_reducible first | exact HB.out | apply below_alloc | apply pw_below_drewN | apply below_drew1) | exact HB.out)⟩⟩
                      · rw [if_neg c36] at H
                        have c36b0 : decide ((l0.length : Int) ≤ (rd t502 x9_4)) = false := decide_eq_false c36
                        clear c36
                        by_cases c37 : x9_4 > 0
                        · rw [if_pos c37] at H
                          have c37b0 : decide (0 < x9_4) = true := decide_eq_true c37
                          clear c37
                          obtain ⟨ji38, hji38⟩ : ∃ j_ : Int, (wrap64 (x9_4 - 1)) = j_ := ⟨_, rfl⟩
                          replace H : (if 0 ≤ (ji38) then (if (ji38) < (t498.length : Int) then (if x9_4 < (t498.length : Int) then (kimberlitelaw01_SpanMet.j4 k4 l0 l1 t498 t502 x9_4 (decide ((rd t498 (ji38)) ≥ (rd t498 x9_4)))) else (none)) else (none)) else (none)) = some r := by first | (rw [hji38] at H; exact H) | (simp only [hji38] at H ⊢; exact H)
                          have hji38w : (IntKind.i64.wrap (x9_4 - 1)) = ji38 := (i64_w _).trans hji38
                          by_cases c39 : 0 ≤ (ji38)
                          · rw [if_pos c39] at H
                            have c39b0 : decide (0 ≤ (ji38)) = true := decide_eq_true c39
                            clear c39
                            by_cases c40 : (ji38) < (t498.length : Int)
                            · rw [if_pos c40] at H
                              have c40b0 : decide ((ji38) < (t498.length : Int)) = true := decide_eq_true c40
                              clear c40
                              by_cases c41 : x9_4 < (t498.length : Int)
                              · rw [if_pos c41] at H
                                have c41b0 : decide (x9_4 < (t498.length : Int)) = true := decide_eq_true c41
                                clear c41
                                have H' := Aside0.mk H
                                clear H
                                have p508 : 0 ≤ (x9_4 : Int) := of_decide_eq_true (by first | (with_reducible assumption) | assumption)
                                have q508 : x9_4 < (t502.length : Int) := of_decide_eq_true (by first | (with_reducible assumption) | assumption)
                                obtain ⟨ad508, e508, hx508_0⟩ := Kd.at_int (Kd.R_reads' HO_7.out).2.2 x9_4 p508 q508
                                cases e508
                                replace p508 := eq_true p508
                                replace q508 := eq_true q508
                                have p509 : 0 ≤ (x9_4 : Int) := of_decide_eq_true (by first | (with_reducible assumption) | assumption)
                                have q509 : x9_4 < (t502.length : Int) := of_decide_eq_true (by first | (with_reducible assumption) | assumption)
                                obtain ⟨ad509, e509, hx509_0⟩ := Kd.at_int (Kd.R_reads' HO_7.out).2.2 x9_4 p509 q509
                                obtain rfl : ad508 = ad509 := (by injection e509)
                                replace p509 := eq_true p509
                                replace q509 := eq_true q509
                                obtain ⟨Ao42, co42, eo42⟩ := Kd.R_slice HO_5.out
                                subst eo42
                                have p510 : 0 ≤ ((ji38) : Int) := of_decide_eq_true (by first | (with_reducible assumption) | assumption)
                                have q510 : (ji38) < (t498.length : Int) := of_decide_eq_true (by first | (with_reducible assumption) | assumption)
                                obtain ⟨ad510, e510, hx510_0⟩ := Kd.at_int (Kd.R_reads' HO_5.out).2.2 (ji38) p510 q510
                                cases e510
                                replace p510 := eq_true p510
                                replace q510 := eq_true q510
                                have p511 : 0 ≤ (x9_4 : Int) := of_decide_eq_true (by first | (with_reducible assumption) | assumption)
                                have q511 : x9_4 < (t498.length : Int) := of_decide_eq_true (by first | (with_reducible assumption) | assumption)
                                obtain ⟨ad511, e511, hx511_0⟩ := Kd.at_int (Kd.R_reads' HO_5.out).2.2 x9_4 p511 q511
                                obtain rfl : ad510 = ad511 := (by injection e511)
                                replace p511 := eq_true p511
                                replace q511 := eq_true q511
                                go_wp2
                                repeat (go_quiet (fail); try go_wp2)
                                go_meet
                                case rel => exact ⟨_, (decide ((rd t498 (ji38)) ≥ (rd t498 x9_4))), (by first | rfl | (simp; done) | (simp only [← hji38] <;> (first | rfl | simp)) | (simp [*]; done)), H', ⟨by have := HJ2.out; have := HJ9.out; have := HJ22.out; have := HK4.out; first | omega | exact Nat.le_refl _⟩, ⟨by (with_reducible repeat (first | apply Kd.R_alloc | apply Kd.R_drewN | apply Kd.R_drew)); exact HO_5.out⟩, ⟨by (with_reducible repeat (first | apply Kd.R_alloc | apply Kd.R_drewN | apply Kd.R_drew)); exact HO_7.out⟩, ⟨by repeat (first | (with_reducible first | exact HB.out | apply below_alloc | apply pw_below_drewN | apply below_drew1) | exact HB.out)⟩⟩
                              · rw [if_neg c41] at H
                                exact absurd H (by simp)
                            · rw [if_neg c40] at H
                              exact absurd H (by simp)
                          · rw [if_neg c39] at H
                            exact absurd H (by simp)
                        · rw [if_neg c37] at H
                          have c37b0 : decide (0 < x9_4) = false := decide_eq_false c37
                          clear c37
                          have H' := Aside0.mk H
                          clear H
                          have p508 : 0 ≤ (x9_4 : Int) := of_decide_eq_true (by first | (with_reducible assumption) | assumption)
                          have q508 : x9_4 < (t502.length : Int) := of_decide_eq_true (by first | (with_reducible assumption) | assumption)
                          obtain ⟨ad508, e508, hx508_0⟩ := Kd.at_int (Kd.R_reads' HO_7.out).2.2 x9_4 p508 q508
                          cases e508
                          replace p508 := eq_true p508
                          replace q508 := eq_true q508
                          have p509 : 0 ≤ (x9_4 : Int) := of_decide_eq_true (by first | (with_reducible assumption) | assumption)
                          have q509 : x9_4 < (t502.length : Int) := of_decide_eq_true (by first | (with_reducible assumption) | assumption)
                          obtain ⟨ad509, e509, hx509_0⟩ := Kd.at_int (Kd.R_reads' HO_7.out).2.2 x9_4 p509 q509
                          obtain rfl : ad508 = ad509 := (by injection e509)
                          replace p509 := eq_true p509
                          replace q509 := eq_true q509
                          go_wp2
                          repeat (go_quiet (fail); try go_wp2)
                          go_meet
                          case rel => exact ⟨_, (false), (by first | rfl | (simp; done) | (simp [*]; done)), H', ⟨by have := HJ2.out; have := HJ9.out; have := HJ22.out; have := HK4.out; first | omega | exact Nat.le_refl _⟩, ⟨by (with_reducible repeat (first | apply Kd.R_alloc | apply Kd.R_drewN | apply Kd.R_drew)); exact HO_5.out⟩, ⟨by (with_reducible repeat (first | apply Kd.R_alloc | apply Kd.R_drewN | apply Kd.R_drew)); exact HO_7.out⟩, ⟨by repeat (first | (with_reducible first | exact HB.out | apply below_alloc | apply pw_below_drewN | apply below_drew1) | exact HB.out)⟩⟩
                  · rw [if_neg c34] at H
                    exact absurd H (by simp)
                 case rest =>
                  clear HC32
                  try clear c1
                  try clear c2
                  try clear p2
                  try clear c3
                  try clear c4
                  try clear c4b0
                  try clear c4b1
                  try clear c5
                  try clear p5
                  try clear q5
                  try clear hx5
                  try clear p6
                  try clear c8
                  try clear c13
                  try clear c13b0
                  try clear c13b1
                  try clear c14
                  try clear c15
                  try clear c15b0
                  try clear c15b1
                  try clear c16
                  try clear c16b0
                  try clear c16b1
                  try clear c24
                  try clear c24b0
                  try clear c24b1
                  try clear c24b2
                  try clear c30
                  try clear c31
                  try clear c31b0
                  try clear c34
                  try clear c34b0
                  try clear c35
                  try clear c35b0
                  try clear c36
                  try clear c36b0
                  try clear c37
                  try clear c37b0
                  try clear c39
                  try clear c39b0
                  try clear c40
                  try clear c40b0
                  try clear c41
                  try clear c41b0
                  try clear hx508_0
                  try clear hx509_0
                  try clear hx510_0
                  try clear hx511_0
                  try clear p2
                  try clear p508
                  try clear p509
                  try clear p510
                  try clear p511
                  try clear p6
                  try clear q508
                  try clear q509
                  try clear q510
                  try clear q511
                  obtain ⟨kq, x96_31, rfl, HA, HJ31, HO_5, HO_7, HB⟩ := hcut
                  cases kq with
                  | zero => exact absurd HA.out (by simp [kimberlitelaw01_SpanMet.j4])
                  | succ kj31 =>
                   have H := HA.out
                   clear HA
                   simp only [kimberlitelaw01_SpanMet.j4] at H
                   by_cases c43 : x96_31 = true
                   · subst c43
                     have H1 : (some false) = some r := by rw [if_pos rfl] at H; exact H
                     clear H
                     have H := H1
                     clear H1
                     obtain rfl := Option.some.inj H
                     go_wp2
                     repeat (go_quiet (fail); try go_wp2)
                     go_ret
                     exact ⟨by first | rfl | (simp [errW_none, errW_some] <;> rfl) | (simp [*, errW_none, errW_some] <;> rfl), by repeat (first | (with_reducible first | exact HB.out | apply below_alloc | apply pw_below_drewN | apply below_drew1) | exact HB.out)⟩
                   · replace c43 := Bool.eq_false_iff.mpr c43
                     subst c43
                     have H1 : (kimberlitelaw01_SpanMet.l1 kj31 l0 l1 t498 t502 x9_4 0) = some r := by rw [if_neg (show ¬ (false = true) by decide)] at H; exact H
                     clear H
                     have H := H1
                     clear H1
                     have H' := Aside0.mk H
                     clear H
                     go_wp2
                     repeat (go_quiet (fail); try go_wp2)
                     go_loopg [10] kj31 (fun kq v10 w' => ∃ (x10_6 : Int), v10 = .int .i64 x10_6 ∧ Aside0 (kimberlitelaw01_SpanMet.l1 kq l0 l1 t498 t502 x9_4 x10_6 = some r) ∧ Aside0 (kq ≤ kj31) ∧ Aside0 (Kd.R (Kd.int .i64) 3 w' w.heap.size (fun k_ => some k_ ≠ ((.slice Ao33 t502.length co33) : Value).ownBlock) v500 t498) ∧ Aside0 (Kd.R (Kd.int .i64) 3 w' w.heap.size (fun k_ => some k_ ≠ (v500 : Value).ownBlock) (.slice Ao33 t502.length co33) t502) ∧ Aside0 (Below w.heap.size w w'))
                     case atStart => exact ⟨(0), (by first | rfl | (simp; done) | (simp [*]; done)), H', ⟨Nat.le_refl _⟩, ⟨by (with_reducible repeat (first | apply Kd.R_alloc | apply Kd.R_drewN | apply Kd.R_drew)); exact HO_5.out⟩, ⟨by (with_reducible repeat (first | apply Kd.R_alloc | apply Kd.R_drewN | apply Kd.R_drew)); exact HO_7.out⟩, ⟨by repeat (first | (with_reducible first | exact HB.out | apply below_alloc | apply pw_below_drewN | apply below_drew1) | exact HB.out)⟩⟩
                     case round =>
                      clear H'
                      try clear c1
                      try clear c2
                      try clear p2
                      try clear c3
                      try clear c4
                      try clear c4b0
                      try clear c4b1
                      try clear c5
                      try clear p5
                      try clear q5
                      try clear hx5
                      try clear p6
                      try clear c8
                      try clear c13
                      try clear c13b0
                      try clear c13b1
                      try clear c14
                      try clear c15
                      try clear c15b0
                      try clear c15b1
                      try clear c16
                      try clear c16b0
                      try clear c16b1
                      try clear c24
                      try clear c24b0
                      try clear c24b1
                      try clear c24b2
                      try clear c30
                      try clear c31
                      try clear c31b0
                      try clear c34
                      try clear c34b0
                      try clear c35
                      try clear c35b0
                      try clear c36
                      try clear c36b0
                      try clear c37
                      try clear c37b0
                      try clear c39
                      try clear c39b0
                      try clear c40
                      try clear c40b0
                      try clear c41
                      try clear c41b0
                      try clear c43
                      try clear hx508_0
                      try clear hx509_0
                      try clear hx510_0
                      try clear hx511_0
                      try clear p2
                      try clear p5
                      try clear p508
                      try clear p509
                      try clear p510
                      try clear p511
                      try clear p6
                      try clear q5
                      try clear q508
                      try clear q509
                      try clear q510
                      try clear q511
                      obtain ⟨x10_6, rfl, HA, HK6, HO_5, HO_7, HB⟩ := hrel
                      cases gk with
                      | zero => exact absurd HA.out (by simp [kimberlitelaw01_SpanMet.l1])
                      | succ k6 =>
                       have H := HA.out
                       clear HA
                       simp only [kimberlitelaw01_SpanMet.l1] at H
                       by_cases c44 : x10_6 < x9_4
                       · rw [if_pos c44] at H
                         have c44b0 : decide (x10_6 < x9_4) = true := decide_eq_true c44
                         clear c44
                         have HC45 := Aside0.mk H
                         clear H
                         go_upto_region 17 with (fail)
                         repeat (go_quiet (fail); go_upto_region 17 with (fail))
                         go_cut [137] (fun v137 wc => ∃ (kq : Nat) (x137_44 : Bool), v137 = .bool x137_44 ∧ Aside0 (kimberlitelaw01_SpanMet.j6 kq l0 l1 t498 t502 x9_4 x10_6 x137_44 = some r) ∧ Aside0 (kq ≤ k6) ∧ Aside0 (Kd.R (Kd.int .i64) 3 wc w.heap.size (fun k_ => some k_ ≠ ((.slice Ao33 t502.length co33) : Value).ownBlock) v500 t498) ∧ Aside0 (Kd.R (Kd.int .i64) 3 wc w.heap.size (fun k_ => some k_ ≠ (v500 : Value).ownBlock) (.slice Ao33 t502.length co33) t502) ∧ Aside0 (Below w.heap.size w wc))
                         case first =>
                          have H := HC45.out
                          clear HC45
                          by_cases c46 : 0 ≤ x9_4
                          · rw [if_pos c46] at H
                            have c46b0 : decide (0 ≤ x9_4) = true := decide_eq_true c46
                            clear c46
                            (first | rw [c46b0] | (simp only [i64_w, i32_w]; rw [c46b0]) | skip)
                            by_cases c47 : x9_4 < (t502.length : Int)
                            · rw [if_pos c47] at H
                              have c47b0 : decide (x9_4 < (t502.length : Int)) = true := decide_eq_true c47
                              clear c47
                              by_cases c48 : 0 ≤ (rd t502 x9_4)
                              · rw [if_pos c48] at H
                                have c48b0 : decide (0 ≤ (rd t502 x9_4)) = true := decide_eq_true c48
                                clear c48
                                by_cases c49 : (rd t502 x9_4) < (l0.length : Int)
                                · rw [if_pos c49] at H
                                  have c49b0 : decide ((rd t502 x9_4) < (l0.length : Int)) = true := decide_eq_true c49
                                  clear c49
                                  by_cases c50 : 0 ≤ x10_6
                                  · rw [if_pos c50] at H
                                    have c50b0 : decide (0 ≤ x10_6) = true := decide_eq_true c50
                                    clear c50
                                    by_cases c51 : x10_6 < (t502.length : Int)
                                    · rw [if_pos c51] at H
                                      have c51b0 : decide (x10_6 < (t502.length : Int)) = true := decide_eq_true c51
                                      clear c51
                                      by_cases c52 : 0 ≤ (rd t502 x10_6)
                                      · rw [if_pos c52] at H
                                        have c52b0 : decide (0 ≤ (rd t502 x10_6)) = true := decide_eq_true c52
                                        clear c52
                                        by_cases c53 : (rd t502 x10_6) < (l0.length : Int)
                                        · rw [if_pos c53] at H
                                          have c53b0 : decide ((rd t502 x10_6) < (l0.length : Int)) = true := decide_eq_true c53
                                          clear c53
                                          by_cases c54 : ((rd_T32 l0 (rd t502 x9_4)).f0) < ((rd_T32 l0 (rd t502 x10_6)).f1)
                                          · rw [if_pos c54] at H
                                            have c54b0 : decide (((rd_T32 l0 (rd t502 x9_4)).f0) < ((rd_T32 l0 (rd t502 x10_6)).f1)) = true := decide_eq_true c54
                                            clear c54
                                            have H' := Aside0.mk H
                                            clear H
                                            have p512 : 0 ≤ (x9_4 : Int) := of_decide_eq_true (by first | (with_reducible assumption) | assumption)
                                            have q512 : x9_4 < (t502.length : Int) := of_decide_eq_true (by first | (with_reducible assumption) | assumption)
                                            obtain ⟨ad512, e512, hx512_0⟩ := Kd.at_int (Kd.R_reads' HO_7.out).2.2 x9_4 p512 q512
                                            cases e512
                                            replace p512 := eq_true p512
                                            replace q512 := eq_true q512
                                            have p513 : 0 ≤ ((rd t502 x9_4) : Int) := of_decide_eq_true (by first | (with_reducible assumption) | assumption)
                                            have q513 : (rd t502 x9_4) < (l0.length : Int) := of_decide_eq_true (by first | (with_reducible assumption) | assumption)
                                            obtain ⟨ad513, e513, hx513_0, hx513_1⟩ := at_T32 HR0.out (rd t502 x9_4) p513 q513
                                            cases e513
                                            replace hx513_0 := (HB.out.cell (World.block_lt_of_cell? w _ hx513_0)).trans hx513_0
                                            replace hx513_1 := (HB.out.cell (World.block_lt_of_cell? w _ hx513_1)).trans hx513_1
                                            replace p513 := eq_true p513
                                            replace q513 := eq_true q513
                                            have p514 : 0 ≤ (x10_6 : Int) := of_decide_eq_true (by first | (with_reducible assumption) | assumption)
                                            have q514 : x10_6 < (t502.length : Int) := of_decide_eq_true (by first | (with_reducible assumption) | assumption)
                                            obtain ⟨ad514, e514, hx514_0⟩ := Kd.at_int (Kd.R_reads' HO_7.out).2.2 x10_6 p514 q514
                                            obtain rfl : ad512 = ad514 := (by injection e514)
                                            replace p514 := eq_true p514
                                            replace q514 := eq_true q514
                                            have p515 : 0 ≤ ((rd t502 x10_6) : Int) := of_decide_eq_true (by first | (with_reducible assumption) | assumption)
                                            have q515 : (rd t502 x10_6) < (l0.length : Int) := of_decide_eq_true (by first | (with_reducible assumption) | assumption)
                                            obtain ⟨ad515, e515, hx515_0, hx515_1⟩ := at_T32 HR0.out (rd t502 x10_6) p515 q515
                                            obtain rfl : ad513 = ad515 := (by injection e515)
                                            replace hx515_0 := (HB.out.cell (World.block_lt_of_cell? w _ hx515_0)).trans hx515_0
                                            replace hx515_1 := (HB.out.cell (World.block_lt_of_cell? w _ hx515_1)).trans hx515_1
                                            replace p515 := eq_true p515
                                            replace q515 := eq_true q515
                                            have p516 : 0 ≤ (x10_6 : Int) := of_decide_eq_true (by first | (with_reducible assumption) | assumption)
                                            have q516 : x10_6 < (t502.length : Int) := of_decide_eq_true (by first | (with_reducible assumption) | assumption)
                                            obtain ⟨ad516, e516, hx516_0⟩ := Kd.at_int (Kd.R_reads' HO_7.out).2.2 x10_6 p516 q516
                                            obtain rfl : ad512 = ad516 := (by injection e516)
                                            replace p516 := eq_true p516
                                            replace q516 := eq_true q516
                                            have p517 : 0 ≤ ((rd t502 x10_6) : Int) := of_decide_eq_true (by first | (with_reducible assumption) | assumption)
                                            have q517 : (rd t502 x10_6) < (l0.length : Int) := of_decide_eq_true (by first | (with_reducible assumption) | assumption)
                                            obtain ⟨ad517, e517, hx517_0, hx517_1⟩ := at_T32 HR0.out (rd t502 x10_6) p517 q517
                                            obtain rfl : ad513 = ad517 := (by injection e517)
                                            replace hx517_0 := (HB.out.cell (World.block_lt_of_cell? w _ hx517_0)).trans hx517_0
                                            replace hx517_1 := (HB.out.cell (World.block_lt_of_cell? w _ hx517_1)).trans hx517_1
                                            replace p517 := eq_true p517
                                            replace q517 := eq_true q517
                                            have p518 : 0 ≤ (x9_4 : Int) := of_decide_eq_true (by first | (with_reducible assumption) | assumption)
                                            have q518 : x9_4 < (t502.length : Int) := of_decide_eq_true (by first | (with_reducible assumption) | assumption)
                                            obtain ⟨ad518, e518, hx518_0⟩ := Kd.at_int (Kd.R_reads' HO_7.out).2.2 x9_4 p518 q518
                                            obtain rfl : ad512 = ad518 := (by injection e518)
                                            replace p518 := eq_true p518
                                            replace q518 := eq_true q518
                                            have p519 : 0 ≤ ((rd t502 x9_4) : Int) := of_decide_eq_true (by first | (with_reducible assumption) | assumption)
                                            have q519 : (rd t502 x9_4) < (l0.length : Int) := of_decide_eq_true (by first | (with_reducible assumption) | assumption)
                                            obtain ⟨ad519, e519, hx519_0, hx519_1⟩ := at_T32 HR0.out (rd t502 x9_4) p519 q519
                                            obtain rfl : ad513 = ad519 := (by injection e519)
                                            replace hx519_0 := (HB.out.cell (World.block_lt_of_cell? w _ hx519_0)).trans hx519_0
                                            replace hx519_1 := (HB.out.cell (World.block_lt_of_cell? w _ hx519_1)).trans hx519_1
                                            replace p519 := eq_true p519
                                            replace q519 := eq_true q519
                                            go_wp2
                                            repeat (go_quiet (fail); try go_wp2)
                                            go_meet
                                            case rel => exact ⟨_, (decide (((rd_T32 l0 (rd t502 x10_6)).f0) < ((rd_T32 l0 (rd t502 x9_4)).f1))), (by first | rfl | (simp; done) | (simp [*]; done)), H', ⟨by have := HJ2.out; have := HJ9.out; have := HJ22.out; have := HK4.out; have := HJ31.out; have := HK6.out; first | omega | exact Nat.le_refl _⟩, ⟨by (with_reducible repeat (first | apply Kd.R_alloc | apply Kd.R_drewN | apply Kd.R_drew)); exact HO_5.out⟩, ⟨by (with_reducible repeat (first | apply Kd.R_alloc | apply Kd.R_drewN | apply Kd.R_drew)); exact HO_7.out⟩, ⟨by repeat (first | (with_reducible first | exact HB.out | apply below_alloc | apply pw_below_drewN | apply below_drew1) | exact HB.out)⟩⟩
                                          · rw [if_neg c54] at H
                                            have c54b0 : decide (((rd_T32 l0 (rd t502 x9_4)).f0) < ((rd_T32 l0 (rd t502 x10_6)).f1)) = false := decide_eq_false c54
                                            clear c54
                                            have H' := Aside0.mk H
                                            clear H
                                            have p512 : 0 ≤ (x9_4 : Int) := of_decide_eq_true (by first | (with_reducible assumption) | assumption)
                                            have q512 : x9_4 < (t502.length : Int) := of_decide_eq_true (by first | (with_reducible assumption) | assumption)
                                            obtain ⟨ad512, e512, hx512_0⟩ := Kd.at_int (Kd.R_reads' HO_7.out).2.2 x9_4 p512 q512
                                            cases e512
                                            replace p512 := eq_true p512
                                            replace q512 := eq_true q512
                                            have p513 : 0 ≤ ((rd t502 x9_4) : Int) := of_decide_eq_true (by first | (with_reducible assumption) | assumption)
                                            have q513 : (rd t502 x9_4) < (l0.length : Int) := of_decide_eq_true (by first | (with_reducible assumption) | assumption)
                                            obtain ⟨ad513, e513, hx513_0, hx513_1⟩ := at_T32 HR0.out (rd t502 x9_4) p513 q513
                                            cases e513
                                            replace hx513_0 := (HB.out.cell (World.block_lt_of_cell? w _ hx513_0)).trans hx513_0
                                            replace hx513_1 := (HB.out.cell (World.block_lt_of_cell? w _ hx513_1)).trans hx513_1
                                            replace p513 := eq_true p513
                                            replace q513 := eq_true q513
                                            have p514 : 0 ≤ (x10_6 : Int) := of_decide_eq_true (by first | (with_reducible assumption) | assumption)
                                            have q514 : x10_6 < (t502.length : Int) := of_decide_eq_true (by first | (with_reducible assumption) | assumption)
                                            obtain ⟨ad514, e514, hx514_0⟩ := Kd.at_int (Kd.R_reads' HO_7.out).2.2 x10_6 p514 q514
                                            obtain rfl : ad512 = ad514 := (by injection e514)
                                            replace p514 := eq_true p514
                                            replace q514 := eq_true q514
                                            have p515 : 0 ≤ ((rd t502 x10_6) : Int) := of_decide_eq_true (by first | (with_reducible assumption) | assumption)
                                            have q515 : (rd t502 x10_6) < (l0.length : Int) := of_decide_eq_true (by first | (with_reducible assumption) | assumption)
                                            obtain ⟨ad515, e515, hx515_0, hx515_1⟩ := at_T32 HR0.out (rd t502 x10_6) p515 q515
                                            obtain rfl : ad513 = ad515 := (by injection e515)
                                            replace hx515_0 := (HB.out.cell (World.block_lt_of_cell? w _ hx515_0)).trans hx515_0
                                            replace hx515_1 := (HB.out.cell (World.block_lt_of_cell? w _ hx515_1)).trans hx515_1
                                            replace p515 := eq_true p515
                                            replace q515 := eq_true q515
                                            go_wp2
                                            repeat (go_quiet (fail); try go_wp2)
                                            go_meet
                                            case rel => exact ⟨_, (false), (by first | rfl | (simp; done) | (simp [*]; done)), H', ⟨by have := HJ2.out; have := HJ9.out; have := HJ22.out; have := HK4.out; have := HJ31.out; have := HK6.out; first | omega | exact Nat.le_refl _⟩, ⟨by (with_reducible repeat (first | apply Kd.R_alloc | apply Kd.R_drewN | apply Kd.R_drew)); exact HO_5.out⟩, ⟨by (with_reducible repeat (first | apply Kd.R_alloc | apply Kd.R_drewN | apply Kd.R_drew)); exact HO_7.out⟩, ⟨by repeat (first | (with_reducible first | exact HB.out | apply below_alloc | apply pw_below_drewN | apply below_drew1) | exact HB.out)⟩⟩
                                        · rw [if_neg c53] at H
                                          exact absurd H (by simp)
                                      · rw [if_neg c52] at H
                                        exact absurd H (by simp)
                                    · rw [if_neg c51] at H
                                      exact absurd H (by simp)
                                  · rw [if_neg c50] at H
                                    exact absurd H (by simp)
                                · rw [if_neg c49] at H
                                  exact absurd H (by simp)
                              · rw [if_neg c48] at H
                                exact absurd H (by simp)
                            · rw [if_neg c47] at H
                              exact absurd H (by simp)
                          · rw [if_neg c46] at H
                            exact absurd H (by simp)
                         case rest =>
                          clear HC45
                          try clear c1
                          try clear c2
                          try clear p2
                          try clear c3
                          try clear c4
                          try clear c4b0
                          try clear c4b1
                          try clear c5
                          try clear p5
                          try clear q5
                          try clear hx5
                          try clear p6
                          try clear c8
                          try clear c13
                          try clear c13b0
                          try clear c13b1
                          try clear c14
                          try clear c15
                          try clear c15b0
                          try clear c15b1
                          try clear c16
                          try clear c16b0
                          try clear c16b1
                          try clear c24
                          try clear c24b0
                          try clear c24b1
                          try clear c24b2
                          try clear c30
                          try clear c31
                          try clear c31b0
                          try clear c34
                          try clear c34b0
                          try clear c35
                          try clear c35b0
                          try clear c36
                          try clear c36b0
                          try clear c37
                          try clear c37b0
                          try clear c39
                          try clear c39b0
                          try clear c40
                          try clear c40b0
                          try clear c41
                          try clear c41b0
                          try clear c43
                          try clear c44
                          try clear c44b0
                          try clear c46
                          try clear c46b0
                          try clear c47
                          try clear c47b0
                          try clear c48
                          try clear c48b0
                          try clear c49
                          try clear c49b0
                          try clear c50
                          try clear c50b0
                          try clear p50
                          try clear q50
                          try clear hx50
                          try clear c51
                          try clear c51b0
                          try clear p51
                          try clear q51
                          try clear hx51
                          try clear c52
                          try clear c52b0
                          try clear c53
                          try clear c53b0
                          try clear c54
                          try clear c54b0
                          try clear hx508_0
                          try clear hx509_0
                          try clear hx510_0
                          try clear hx511_0
                          try clear hx512_0
                          try clear hx513_0
                          try clear hx513_1
                          try clear hx514_0
                          try clear hx515_0
                          try clear hx515_1
                          try clear hx516_0
                          try clear hx517_0
                          try clear hx517_1
                          try clear hx518_0
                          try clear hx519_0
                          try clear hx519_1
                          try clear p2
                          try clear p5
                          try clear p508
                          try clear p509
                          try clear p510
                          try clear p511
                          try clear p512
                          try clear p513
                          try clear p514
                          try clear p515
                          try clear p516
                          try clear p517
                          try clear p518
                          try clear p519
                          try clear p6
                          try clear q5
                          try clear q508
                          try clear q509
                          try clear q510
                          try clear q511
                          try clear q512
                          try clear q513
                          try clear q514
                          try clear q515
                          try clear q516
                          try clear q517
                          try clear q518
                          try clear q519
                          obtain ⟨kq, x137_44, rfl, HA, HJ44, HO_5, HO_7, HB⟩ := hcut
                          cases kq with
                          | zero => exact absurd HA.out (by simp [kimberlitelaw01_SpanMet.j6])
                          | succ kj44 =>
                           have H := HA.out
                           clear HA
                           simp only [kimberlitelaw01_SpanMet.j6] at H
                           by_cases c55 : x137_44 = true
                           · subst c55
                             have H1 : (some false) = some r := by rw [if_pos rfl] at H; exact H
                             clear H
                             have H := H1
                             clear H1
                             obtain rfl := Option.some.inj H
                             go_wp2
                             repeat (go_quiet (fail); try go_wp2)
                             go_ret
                             exact ⟨by first | rfl | (simp [errW_none, errW_some] <;> rfl) | (simp [*, errW_none, errW_some] <;> rfl), by repeat (first | (with_reducible first | exact HB.out | apply below_alloc | apply pw_below_drewN | apply below_drew1) | exact HB.out)⟩
                           · replace c55 := Bool.eq_false_iff.mpr c55
                             subst c55
                             have H1 : (kimberlitelaw01_SpanMet.l1 kj44 l0 l1 t498 t502 x9_4 (wrap64 (x10_6 + 1))) = some r := by rw [if_neg (show ¬ (false = true) by decide)] at H; exact H
                             clear H
                             have H := H1
                             clear H1
                             have H' := Aside0.mk H
                             clear H
                             go_wp2
                             repeat (go_quiet (fail); try go_wp2)
                             go_roundg kj44
                             case measure => have := HJ2.out; have := HJ9.out; have := HJ22.out; have := HK4.out; have := HJ31.out; have := HK6.out; have := HJ44.out; omega
                             case rel => exact ⟨(wrap64 (x10_6 + 1)), (by first | rfl | (simp; done) | (simp [*]; done)), H', ⟨by have := HJ2.out; have := HJ9.out; have := HJ22.out; have := HK4.out; have := HJ31.out; have := HK6.out; have := HJ44.out; omega⟩, ⟨by (with_reducible repeat (first | apply Kd.R_alloc | apply Kd.R_drewN | apply Kd.R_drew)); exact HO_5.out⟩, ⟨by (with_reducible repeat (first | apply Kd.R_alloc | apply Kd.R_drewN | apply Kd.R_drew)); exact HO_7.out⟩, ⟨by repeat (first | (with_reducible first | exact HB.out | apply below_alloc | apply pw_below_drewN | apply below_drew1) | exact HB.out)⟩⟩
                       · rw [if_neg c44] at H
                         have c44b0 : decide (x10_6 < x9_4) = false := decide_eq_false c44
                         clear c44
                         have H' := Aside0.mk H
                         clear H
                         go_wp2
                         repeat (go_quiet (fail); try go_wp2)
                         go_roundg k6
                         case measure => have := HJ2.out; have := HJ9.out; have := HJ22.out; have := HK4.out; have := HJ31.out; have := HK6.out; omega
                         case rel => exact ⟨(wrap64 (x9_4 + 1)), (by first | rfl | (simp; done) | (simp [*]; done)), H', ⟨by have := HJ2.out; have := HJ9.out; have := HJ22.out; have := HK4.out; have := HJ31.out; have := HK6.out; omega⟩, ⟨by (with_reducible repeat (first | apply Kd.R_alloc | apply Kd.R_drewN | apply Kd.R_drew)); exact HO_5.out⟩, ⟨by (with_reducible repeat (first | apply Kd.R_alloc | apply Kd.R_drewN | apply Kd.R_drew)); exact HO_7.out⟩, ⟨by repeat (first | (with_reducible first | exact HB.out | apply below_alloc | apply pw_below_drewN | apply below_drew1) | exact HB.out)⟩⟩
               · rw [if_neg c31] at H
                 have c31b0 : decide (x9_4 < (t502.length : Int)) = false := decide_eq_false c31
                 clear c31
                 by_cases c56 : (l1.length : Int) ≥ (t498.length : Int)
                 · rw [if_pos c56] at H
                   have c56b0 : decide ((t498.length : Int) ≤ (l1.length : Int)) = true := decide_eq_true c56
                   have c56b1 : decide (t498.length ≤ l1.length) = true := decide_eq_true (Int.ofNat_le.mp c56)
                   clear c56
                   replace H := Option.bind_eq_some_iff.mp H
                   obtain ⟨t520, A570, H⟩ := H
                   replace H : (some t520) = some r := H
                   have A57 := Aside0.mk A570
                   clear A570
                   obtain rfl := Option.some.inj H
                   obtain ⟨Ao58, co58, eo58⟩ := Kd.R_slice HO_7.out
                   subst eo58
                   obtain ⟨Ao59, co59, eo59⟩ := Kd.R_slice HO_5.out
                   subst eo59
                   go_wp2_with (first | (go_at_call 16; (with_reducible refine (kimberlitelaw01_alive.calls k4  t520 _ A57.out).mono ?_); rintro e w60 ⟨rfl, hb⟩; have n0_ := Aside0.mk (Kd.R_below (by (with_reducible repeat (first | apply Kd.R_alloc | apply Kd.R_drewN | apply Kd.R_drew)); exact HO_5.out) hb); have n1_ := Aside0.mk (Kd.R_below (by (with_reducible repeat (first | apply Kd.R_alloc | apply Kd.R_drewN | apply Kd.R_drew)); exact HO_7.out) hb); have n2_ := Aside0.mk (below_step (by repeat (first | (with_reducible first | exact HB.out | apply below_alloc | apply pw_below_drewN | apply below_drew1) | exact HB.out)) hb); clear HO_5; clear HO_7; clear HB; have HO_5 := n0_; have HO_7 := n1_; have HB := n2_; clear n0_ n1_ n2_; (try clear hb); (try clear hb2); (try clear hk); (try clear hi)))
                   repeat (go_quiet (first | (go_at_call 16; (with_reducible refine (kimberlitelaw01_alive.calls k4  t520 _ A57.out).mono ?_); rintro e w60 ⟨rfl, hb⟩; have n0_ := Aside0.mk (Kd.R_below (by (with_reducible repeat (first | apply Kd.R_alloc | apply Kd.R_drewN | apply Kd.R_drew)); exact HO_5.out) hb); have n1_ := Aside0.mk (Kd.R_below (by (with_reducible repeat (first | apply Kd.R_alloc | apply Kd.R_drewN | apply Kd.R_drew)); exact HO_7.out) hb); have n2_ := Aside0.mk (below_step (by repeat (first | (with_reducible first | exact HB.out | apply below_alloc | apply pw_below_drewN | apply below_drew1) | exact HB.out)) hb); clear HO_5; clear HO_7; clear HB; have HO_5 := n0_; have HO_7 := n1_; have HB := n2_; clear n0_ n1_ n2_; (try clear hb); (try clear hb2); (try clear hk); (try clear hi))); try go_wp2_with (first | (go_at_call 16; (with_reducible refine (kimberlitelaw01_alive.calls k4  t520 _ A57.out).mono ?_); rintro e w60 ⟨rfl, hb⟩; have n0_ := Aside0.mk (Kd.R_below (by (with_reducible repeat (first | apply Kd.R_alloc | apply Kd.R_drewN | apply Kd.R_drew)); exact HO_5.out) hb); have n1_ := Aside0.mk (Kd.R_below (by (with_reducible repeat (first | apply Kd.R_alloc | apply Kd.R_drewN | apply Kd.R_drew)); exact HO_7.out) hb); have n2_ := Aside0.mk (below_step (by repeat (first | (with_reducible first | exact HB.out | apply below_alloc | apply pw_below_drewN | apply below_drew1) | exact HB.out)) hb); clear HO_5; clear HO_7; clear HB; have HO_5 := n0_; have HO_7 := n1_; have HB := n2_; clear n0_ n1_ n2_; (try clear hb); (try clear hb2); (try clear hk); (try clear hi))))
                   go_ret
                   exact ⟨by first | rfl | (simp [errW_none, errW_some] <;> rfl) | (simp [*, errW_none, errW_some] <;> rfl), by repeat (first | (with_reducible first | exact HB.out | apply below_alloc | apply pw_below_drewN | apply below_drew1) | exact HB.out)⟩
                 · rw [if_neg c56] at H
                   have c56b0 : decide ((t498.length : Int) ≤ (l1.length : Int)) = false := decide_eq_false c56
                   have c56b1 : decide (t498.length ≤ l1.length) = false := decide_eq_false (fun h => c56 (Int.ofNat_le.mpr h))
                   clear c56
                   replace H := Option.bind_eq_some_iff.mp H
                   obtain ⟨t521, A610, H⟩ := H
                   replace H : (if t521 = true then (some false) else ((kimberlitelaw01_alive.f k4).bind fun t522 => (some t522))) = some r := H
                   have A61 := Aside0.mk A610
                   clear A610
                   by_cases c62 : t521 = true
                   · subst c62
                     have H1 : (some false) = some r := by rw [if_pos rfl] at H; exact H
                     clear H
                     have H := H1
                     clear H1
                     obtain rfl := Option.some.inj H
                     obtain ⟨Ao63, co63, eo63⟩ := Kd.R_slice HO_7.out
                     subst eo63
                     obtain ⟨Ao64, co64, eo64⟩ := Kd.R_slice HO_5.out
                     subst eo64
                     go_wp2_with (first | (go_at_call 44; (with_reducible refine (kimberlitelaw01_meets.calls k4 _ _ l0 _ _ l1 true _ ?side1 ?side2 ?side3 ?side4 A61.out).mono ?_); (case side1 => repeat (first | exact (Kd.C_below HR0.out HB.out) | (with_reducible refine Kd.C_alloc ?_ _) | (with_reducible refine Kd.C_drewN ?_ _) | (with_reducible refine Kd.C_drew ?_))); (case side2 => exact HC0.out); (case side3 => repeat (first | exact (Kd.C_below HR1.out HB.out) | (with_reducible refine Kd.C_alloc ?_ _) | (with_reducible refine Kd.C_drewN ?_ _) | (with_reducible refine Kd.C_drew ?_))); (case side4 => exact HC1.out); rintro e w' ⟨rfl, ⟨nd, rfl⟩⟩; (try first | exact ⟨rfl, _, World.drewN_drewN _ _ _⟩ | exact ⟨rfl, _, Eq.trans (World.drewN_drewN _ _ _) (congrArg (World.drewN _) (Nat.add_assoc _ _ _))⟩)))
                     repeat (go_quiet (first | (go_at_call 44; (with_reducible refine (kimberlitelaw01_meets.calls k4 _ _ l0 _ _ l1 true _ ?side1 ?side2 ?side3 ?side4 A61.out).mono ?_); (case side1 => repeat (first | exact (Kd.C_below HR0.out HB.out) | (with_reducible refine Kd.C_alloc ?_ _) | (with_reducible refine Kd.C_drewN ?_ _) | (with_reducible refine Kd.C_drew ?_))); (case side2 => exact HC0.out); (case side3 => repeat (first | exact (Kd.C_below HR1.out HB.out) | (with_reducible refine Kd.C_alloc ?_ _) | (with_reducible refine Kd.C_drewN ?_ _) | (with_reducible refine Kd.C_drew ?_))); (case side4 => exact HC1.out); rintro e w' ⟨rfl, ⟨nd, rfl⟩⟩; (try first | exact ⟨rfl, _, World.drewN_drewN _ _ _⟩ | exact ⟨rfl, _, Eq.trans (World.drewN_drewN _ _ _) (congrArg (World.drewN _) (Nat.add_assoc _ _ _))⟩))); try go_wp2_with (first | (go_at_call 44; (with_reducible refine (kimberlitelaw01_meets.calls k4 _ _ l0 _ _ l1 true _ ?side1 ?side2 ?side3 ?side4 A61.out).mono ?_); (case side1 => repeat (first | exact (Kd.C_below HR0.out HB.out) | (with_reducible refine Kd.C_alloc ?_ _) | (with_reducible refine Kd.C_drewN ?_ _) | (with_reducible refine Kd.C_drew ?_))); (case side2 => exact HC0.out); (case side3 => repeat (first | exact (Kd.C_below HR1.out HB.out) | (with_reducible refine Kd.C_alloc ?_ _) | (with_reducible refine Kd.C_drewN ?_ _) | (with_reducible refine Kd.C_drew ?_))); (case side4 => exact HC1.out); rintro e w' ⟨rfl, ⟨nd, rfl⟩⟩; (try first | exact ⟨rfl, _, World.drewN_drewN _ _ _⟩ | exact ⟨rfl, _, Eq.trans (World.drewN_drewN _ _ _) (congrArg (World.drewN _) (Nat.add_assoc _ _ _))⟩))))
                     go_ret
                     exact ⟨by first | rfl | (simp [errW_none, errW_some] <;> rfl) | (simp [*, errW_none, errW_some] <;> rfl), by repeat (first | (with_reducible first | exact HB.out | apply below_alloc | apply pw_below_drewN | apply below_drew1) | exact HB.out)⟩
                   · replace c62 := Bool.eq_false_iff.mpr c62
                     subst c62
                     have H1 : ((kimberlitelaw01_alive.f k4).bind fun t522 => (some t522)) = some r := by rw [if_neg (show ¬ (false = true) by decide)] at H; exact H
                     clear H
                     have H := H1
                     clear H1
                     replace H := Option.bind_eq_some_iff.mp H
                     obtain ⟨t522, A650, H⟩ := H
                     replace H : (some t522) = some r := H
                     have A65 := Aside0.mk A650
                     clear A650
                     obtain rfl := Option.some.inj H
                     obtain ⟨Ao66, co66, eo66⟩ := Kd.R_slice HO_7.out
                     subst eo66
                     obtain ⟨Ao67, co67, eo67⟩ := Kd.R_slice HO_5.out
                     subst eo67
                     go_wp2_with (first | (go_at_call 44; (with_reducible refine (kimberlitelaw01_meets.calls k4 _ _ l0 _ _ l1 false _ ?side1 ?side2 ?side3 ?side4 A61.out).mono ?_); (case side1 => repeat (first | exact (Kd.C_below HR0.out HB.out) | (with_reducible refine Kd.C_alloc ?_ _) | (with_reducible refine Kd.C_drewN ?_ _) | (with_reducible refine Kd.C_drew ?_))); (case side2 => exact HC0.out); (case side3 => repeat (first | exact (Kd.C_below HR1.out HB.out) | (with_reducible refine Kd.C_alloc ?_ _) | (with_reducible refine Kd.C_drewN ?_ _) | (with_reducible refine Kd.C_drew ?_))); (case side4 => exact HC1.out); rintro e w' ⟨rfl, ⟨nd, rfl⟩⟩; (try first | exact ⟨rfl, _, World.drewN_drewN _ _ _⟩ | exact ⟨rfl, _, Eq.trans (World.drewN_drewN _ _ _) (congrArg (World.drewN _) (Nat.add_assoc _ _ _))⟩)) | (go_at_call 16; (with_reducible refine (kimberlitelaw01_alive.calls k4  t522 _ A65.out).mono ?_); rintro e w68 ⟨rfl, hb⟩; have n0_ := Aside0.mk (Kd.R_below (by (with_reducible repeat (first | apply Kd.R_alloc | apply Kd.R_drewN | apply Kd.R_drew)); exact HO_5.out) hb); have n1_ := Aside0.mk (Kd.R_below (by (with_reducible repeat (first | apply Kd.R_alloc | apply Kd.R_drewN | apply Kd.R_drew)); exact HO_7.out) hb); have n2_ := Aside0.mk (below_step (by repeat (first | (with_reducible first | exact HB.out | apply below_alloc | apply pw_below_drewN | apply below_drew1) | exact HB.out)) hb); clear HO_5; clear HO_7; clear HB; have HO_5 := n0_; have HO_7 := n1_; have HB := n2_; clear n0_ n1_ n2_; (try clear hb); (try clear hb2); (try clear hk); (try clear hi)))
                     repeat (go_quiet (first | (go_at_call 44; (with_reducible refine (kimberlitelaw01_meets.calls k4 _ _ l0 _ _ l1 false _ ?side1 ?side2 ?side3 ?side4 A61.out).mono ?_); (case side1 => repeat (first | exact (Kd.C_below HR0.out HB.out) | (with_reducible refine Kd.C_alloc ?_ _) | (with_reducible refine Kd.C_drewN ?_ _) | (with_reducible refine Kd.C_drew ?_))); (case side2 => exact HC0.out); (case side3 => repeat (first | exact (Kd.C_below HR1.out HB.out) | (with_reducible refine Kd.C_alloc ?_ _) | (with_reducible refine Kd.C_drewN ?_ _) | (with_reducible refine Kd.C_drew ?_))); (case side4 => exact HC1.out); rintro e w' ⟨rfl, ⟨nd, rfl⟩⟩; (try first | exact ⟨rfl, _, World.drewN_drewN _ _ _⟩ | exact ⟨rfl, _, Eq.trans (World.drewN_drewN _ _ _) (congrArg (World.drewN _) (Nat.add_assoc _ _ _))⟩)) | (go_at_call 16; (with_reducible refine (kimberlitelaw01_alive.calls k4  t522 _ A65.out).mono ?_); rintro e w68 ⟨rfl, hb⟩; have n0_ := Aside0.mk (Kd.R_below (by (with_reducible repeat (first | apply Kd.R_alloc | apply Kd.R_drewN | apply Kd.R_drew)); exact HO_5.out) hb); have n1_ := Aside0.mk (Kd.R_below (by (with_reducible repeat (first | apply Kd.R_alloc | apply Kd.R_drewN | apply Kd.R_drew)); exact HO_7.out) hb); have n2_ := Aside0.mk (below_step (by repeat (first | (with_reducible first | exact HB.out | apply below_alloc | apply pw_below_drewN | apply below_drew1) | exact HB.out)) hb); clear HO_5; clear HO_7; clear HB; have HO_5 := n0_; have HO_7 := n1_; have HB := n2_; clear n0_ n1_ n2_; (try clear hb); (try clear hb2); (try clear hk); (try clear hi))); try go_wp2_with (first | (go_at_call 44; (with_reducible refine (kimberlitelaw01_meets.calls k4 _ _ l0 _ _ l1 false _ ?side1 ?side2 ?side3 ?side4 A61.out).mono ?_); (case side1 => repeat (first | exact (Kd.C_below HR0.out HB.out) | (with_reducible refine Kd.C_alloc ?_ _) | (with_reducible refine Kd.C_drewN ?_ _) | (with_reducible refine Kd.C_drew ?_))); (case side2 => exact HC0.out); (case side3 => repeat (first | exact (Kd.C_below HR1.out HB.out) | (with_reducible refine Kd.C_alloc ?_ _) | (with_reducible refine Kd.C_drewN ?_ _) | (with_reducible refine Kd.C_drew ?_))); (case side4 => exact HC1.out); rintro e w' ⟨rfl, ⟨nd, rfl⟩⟩; (try first | exact ⟨rfl, _, World.drewN_drewN _ _ _⟩ | exact ⟨rfl, _, Eq.trans (World.drewN_drewN _ _ _) (congrArg (World.drewN _) (Nat.add_assoc _ _ _))⟩)) | (go_at_call 16; (with_reducible refine (kimberlitelaw01_alive.calls k4  t522 _ A65.out).mono ?_); rintro e w68 ⟨rfl, hb⟩; have n0_ := Aside0.mk (Kd.R_below (by (with_reducible repeat (first | apply Kd.R_alloc | apply Kd.R_drewN | apply Kd.R_drew)); exact HO_5.out) hb); have n1_ := Aside0.mk (Kd.R_below (by (with_reducible repeat (first | apply Kd.R_alloc | apply Kd.R_drewN | apply Kd.R_drew)); exact HO_7.out) hb); have n2_ := Aside0.mk (below_step (by repeat (first | (with_reducible first | exact HB.out | apply below_alloc | apply pw_below_drewN | apply below_drew1) | exact HB.out)) hb); clear HO_5; clear HO_7; clear HB; have HO_5 := n0_; have HO_7 := n1_; have HB := n2_; clear n0_ n1_ n2_; (try clear hb); (try clear hb2); (try clear hk); (try clear hi))))
                     go_ret
                     exact ⟨by first | rfl | (simp [errW_none, errW_some] <;> rfl) | (simp [*, errW_none, errW_some] <;> rfl), by repeat (first | (with_reducible first | exact HB.out | apply below_alloc | apply pw_below_drewN | apply below_drew1) | exact HB.out)⟩
end Go.Proofs.Ytningpmoojnomaa.Pr
end
section
namespace Go.Proofs.Ytningpmoojnomaa.Pr
open Go.RowKit Go.Proofs.YtningpmoojnomaaW.PrintWords Go.Proofs.YtningpmoojnomaaW.PrintLast Go.Proofs.YtningpmoojnomaaW.PrintMore
theorem alive_now : kimberlitelaw01_alive.f 40 = some true := by kernel_rfl
theorem alive_ev : Ev (fun k => kimberlitelaw01_alive.f k) true := Ev.of (fun k => kimberlitelaw01_alive.mono k) alive_now
end Go.Proofs.Ytningpmoojnomaa.Pr
end
section
namespace Go.Proofs.Ytningpmoojnomaa.Pr
open Go.RowKit Go.ChangeShapes Go.WideShapes Go.Deep Go.Joins Go.Proofs.YtningpmoojnomaaW.PrintWords Go.Proofs.YtningpmoojnomaaW.PrintLast Go.Proofs.YtningpmoojnomaaW.PrintMore
set_option linter.unusedVariables false
set_option linter.unusedSimpArgs false
section
variable {H : Type} {enc : TypeId × Value → H} {W : World}
/-- Both numbers of a span are int64s. -/
def okS (x : S32) : Prop := (Lit.int .i64 x.f0).wf = true ∧ (Lit.int .i64 x.f1).wf = true
set_option maxRecDepth 100000 in
theorem open_spans {a : Option Addr} {len cap : Nat} {d : DataW H} {p : List MemPlace} (h : DataW.Trod enc Try.prog W 0 (fun _ => true) true 22 (.slice a len cap) d p) :
    ∃ l : List S32, l.length = len ∧ l.length ≤ cap ∧ Kd.C k32 W a l.length l ∧ ∀ x ∈ l, okS x := by
  obtain ⟨fuel, hf⟩ := h
  rcases open_slice Try.underlying22 hf with ⟨hcs, _⟩ | ⟨ad, len', cap', m, n, D, Pl, hcs, _, hl, hm, hmm, _, hi⟩
  · simp [Value.cells] at hcs
    obtain ⟨rfl, rfl, rfl⟩ := hcs
    exact ⟨[], rfl, by simp, ⟨rfl, by simp, fun h => absurd h (by simp)⟩, fun x hx => absurd hx (by simp)⟩
  · simp [Value.cells] at hcs
    obtain ⟨rfl, rfl, rfl⟩ := hcs
    have hC : Try.prog.cellsOf 32 = 2 := by kernel_rfl
    have key : ∀ i, i < len → ∃ x : S32, okS x ∧ W.cell? (ad.add (i * 2)) = some (.int .i64 x.f0) ∧ W.cell? (ad.add (i * 2 + 1)) = some (.int .i64 x.f1) := by
      intro i hil
      obtain ⟨cs', hc, ht'⟩ := hi i (by rw [hmm]; simp; omega)
      rw [hC] at hc
      obtain ⟨ys, n', hn', hy, hlen, hyl, hfd⟩ := DataW.trod_struct Try.underlying32 ht'
      obtain ⟨_, hcl, hat⟩ := World.cells?_some hc
      match cs', hcl with
      | [c0, c1], _ =>
        have k3 : Try.prog.cellsOf 3 = 1 := by kernel_rfl
        obtain ⟨y0, hy0⟩ : ∃ y, ys[0]? = some y := ⟨_, List.getElem?_eq_getElem (by rw [hyl]; decide)⟩
        obtain ⟨y1, hy1⟩ : ∃ y, ys[1]? = some y := ⟨_, List.getElem?_eq_getElem (by rw [hyl]; decide)⟩
        have g0 := hfd 0 _ rfl
        have g1 := hfd 1 _ rfl
        dsimp only [List.getElem_toArray, List.getElem_cons_zero, List.getElem_cons_succ] at g0 g1
        rw [k3, hy0] at g0
        rw [k3, hy1] at g1
        simp only [List.drop_zero, List.drop_succ_cons, List.take_succ_cons, List.take_zero] at g0 g1
        obtain ⟨a0, e0, _, w0⟩ := DataW.trod_int Try.underlying3 g0
        obtain ⟨a1, e1, _, w1⟩ := DataW.trod_int Try.underlying3 g1
        simp at e0 e1
        subst e0 e1
        have h0 := hat 0 (by omega)
        have h1 := hat 1 (by omega)
        rw [Deep.add_add] at h0 h1
        exact ⟨⟨a0, a1⟩, ⟨w0, w1⟩, by simpa using h0, by simpa using h1⟩
    obtain ⟨f, hf⟩ := @choose_lt S32 ⟨z32⟩ _ _ key
    refine ⟨(List.range len).map f, by simp, by simpa using hl, ⟨by simp, by simp; simp only [maxLen] at hm; omega, fun _ => ⟨ad, rfl, fun j x hj => ?_⟩⟩, ?_⟩
    · obtain ⟨hjl, hx⟩ := List.getElem?_eq_some_iff.1 hj
      have hjl' : j < len := by simpa using hjl
      simp at hx
      subst hx
      obtain ⟨_, h0, h1⟩ := hf j hjl'
      refine ⟨_, rfl, k32_mk W (f j), fun i u hu => ?_⟩
      match i, hu with
      | 0, hu => simp at hu; subst hu; exact h0
      | 1, hu => simp at hu; subst hu; exact h1
      | i + 2, hu => simp at hu
    · intro x hx
      obtain ⟨j, hj, rfl⟩ := List.mem_map.1 hx
      exact (hf j (by simpa using hj)).1
set_option maxRecDepth 100000 in
theorem open_nums {a : Option Addr} {len cap : Nat} {d : DataW H} {p : List MemPlace} (h : DataW.Trod enc Try.prog W 0 (fun _ => true) true 33 (.slice a len cap) d p) :
    ∃ l : List Int, l.length = len ∧ l.length ≤ cap ∧ Kd.C (Kd.int .i64) W a l.length l ∧ ∀ x ∈ l, (Lit.int .i64 x).wf = true := by
  obtain ⟨fuel, hf⟩ := h
  rcases open_slice Try.underlying33 hf with ⟨hcs, _⟩ | ⟨ad, len', cap', m, n, D, Pl, hcs, _, hl, hm, hmm, _, hi⟩
  · simp [Value.cells] at hcs
    obtain ⟨rfl, rfl, rfl⟩ := hcs
    exact ⟨[], rfl, by simp, ⟨rfl, by simp, fun h => absurd h (by simp)⟩, fun x hx => absurd hx (by simp)⟩
  · simp [Value.cells] at hcs
    obtain ⟨rfl, rfl, rfl⟩ := hcs
    have hC : Try.prog.cellsOf 3 = 1 := by kernel_rfl
    have key : ∀ i, i < len → ∃ x : Int, (Lit.int .i64 x).wf = true ∧ W.cell? (ad.add i) = some (.int .i64 x) := by
      intro i hil
      obtain ⟨cs', hc, ht'⟩ := hi i (by rw [hmm]; simp; omega)
      rw [hC] at hc
      obtain ⟨_, hcl, hat⟩ := World.cells?_some hc
      match cs', hcl with
      | [c0], _ =>
        obtain ⟨a0, e0, _, w0⟩ := DataW.trod_int Try.underlying3 ht'
        simp at e0
        subst e0
        have h0 := hat 0 (by omega)
        rw [Deep.add_add] at h0
        exact ⟨a0, w0, by simpa using h0⟩
    obtain ⟨f, hf⟩ := choose_lt key
    refine ⟨(List.range len).map f, by simp, by simpa using hl, ⟨by simp, by simp; simp only [maxLen] at hm; omega, fun _ => ⟨ad, rfl, fun j x hj => ?_⟩⟩, ?_⟩
    · obtain ⟨hjl, hx⟩ := List.getElem?_eq_some_iff.1 hj
      have hjl' : j < len := by simpa using hjl
      simp at hx
      subst hx
      obtain ⟨_, h0⟩ := hf j hjl'
      refine ⟨[.int .i64 (f j)], rfl, rfl, fun i u hu => ?_⟩
      match i, hu with
      | 0, hu => simp at hu; subst hu; simpa [show (Kd.int .i64).sz = 1 from rfl] using h0
      | i + 1, hu => simp at hu
    · intro x hx
      obtain ⟨j, hj, rfl⟩ := List.mem_map.1 hx
      exact (hf j (by simpa using hj)).1
end
end Go.Proofs.Ytningpmoojnomaa.Pr
end
section
namespace Go.Proofs.Ytningpmoojnomaa.Pr
open Go.RowKit Go.Proofs.YtningpmoojnomaaW.PrintWords Go.Proofs.YtningpmoojnomaaW.PrintLast Go.Proofs.YtningpmoojnomaaW.PrintMore
set_option linter.unusedVariables false
set_option linter.unusedSimpArgs false
theorem rdN (t : List Int) (i : Nat) (h : i < t.length) : rd t (i : Int) = t[i] := by
  unfold rd
  simp [List.getD_eq_getElem?_getD, List.getElem?_eq_getElem h]
theorem met_l1 (l : List S32) (o P D : List Int) (hl : l.length ≤ 1000) (hD : D.length ≤ 1000) (hd : ∀ x ∈ D, 0 ≤ x ∧ x < (l.length : Int)) (i : Nat) (hi : i < D.length) (hn : ∀ k, ∀ h : k < i, ¬ ((spL l D[i]).f0 < (spL l (D[k]'(by omega))).f1 ∧ (spL l (D[k]'(by omega))).f0 < (spL l D[i]).f1)) (r : Bool)
    (K : Ev (fun k => kimberlitelaw01_SpanMet.l0 k l o P D ((i + 1 : Nat) : Int)) r) : ∀ (d k : Nat), i - k = d → k ≤ i → Ev (fun f => kimberlitelaw01_SpanMet.l1 f l o P D (i : Int) (k : Int)) r
  | 0, k, h, hk => by
    refine Ev.step (fun f => ?_) K
    simp only [kimberlitelaw01_SpanMet.l1]
    rw [if_neg (by omega), wrap_succ hi (by omega)]
  | d + 1, k, h, hk => by
    have hki : k < i := by omega
    have hkD : k < D.length := by omega
    have di := hd _ (List.getElem_mem hi)
    have dk := hd _ (List.getElem_mem hkD)
    have := met_l1 l o P D hl hD hd i hi hn r K d (k + 1) (by omega) (by omega)
    refine Ev.step (f := fun f => kimberlitelaw01_SpanMet.j6 f l o P D (i : Int) (k : Int) false) (fun f => ?_) ?_
    · simp only [kimberlitelaw01_SpanMet.l1]
      rw [if_pos (by omega), if_pos (by omega), if_pos (by omega), rdN D i hi, if_pos (by omega), if_pos (by omega), if_pos (by omega), if_pos (by omega), rdN D k hkD, if_pos (by omega), if_pos (by omega)]
      have := hn k hki
      change ¬ ((rd_T32 l D[i]).f0 < (rd_T32 l D[k]).f1 ∧ (rd_T32 l D[k]).f0 < (rd_T32 l D[i]).f1) at this
      by_cases c : (rd_T32 l D[i]).f0 < (rd_T32 l D[k]).f1
      · rw [if_pos c, decide_eq_false (fun hc => this ⟨c, hc⟩)]
      · rw [if_neg c]
    · refine Ev.step (fun f => ?_) this
      simp only [kimberlitelaw01_SpanMet.j6]
      rw [if_neg (by simp), wrap_succ hkD (by omega)]
theorem met_l0 (l : List S32) (o P D : List Int) (hl : l.length ≤ 1000) (hD : D.length ≤ 1000) (hd : ∀ x ∈ D, 0 ≤ x ∧ x < (l.length : Int)) (hlen : P.length = D.length) (hasc : ∀ i, ∀ h : i + 1 < P.length, P[i] < P[i + 1]) (hn : ∀ i k, ∀ h : k < i, ∀ hi : i < D.length, ¬ ((spL l D[i]).f0 < (spL l (D[k]'(by omega))).f1 ∧ (spL l (D[k]'(by omega))).f0 < (spL l D[i]).f1))
    (ho : o.length ≤ 9223372036854775807) (hleast : l.all (metS o) = true → D.length ≤ o.length) : ∀ (d i : Nat), D.length - i = d → Ev (fun k => kimberlitelaw01_SpanMet.l0 k l o P D (i : Int)) true
  | 0, i, h => by
    have fin : Ev (fun k => (if (o.length : Int) ≥ (P.length : Int) then ((kimberlitelaw01_alive.f k).bind fun t520 => (some t520)) else ((kimberlitelaw01_meets.f k l o).bind fun t521 => (if t521 = true then (some false) else ((kimberlitelaw01_alive.f k).bind fun t522 => (some t522)))))) true := by
      by_cases hc : (o.length : Int) ≥ (P.length : Int)
      · simp only [if_pos hc]
        exact Ev.bind alive_ev (Ev.now _)
      · simp only [if_neg hc]
        refine Ev.bind (meets_ev l o (by omega) ho) ?_
        have : l.all (metS o) = false := by
          rw [← Bool.not_eq_true]
          intro h
          have := hleast h
          omega
        simp only [this, Bool.false_eq_true, if_false]
        exact Ev.bind alive_ev (Ev.now _)
    refine Ev.step (fun k => ?_) fin
    simp only [kimberlitelaw01_SpanMet.l0]
    rw [if_neg (by omega)]
  | d + 1, i, h => by
    have hi : i < D.length := by omega
    have di := hd _ (List.getElem_mem hi)
    have ih := met_l0 l o P D hl hD hd hlen hasc hn ho hleast d (i + 1) (by omega)
    have l1 := met_l1 l o P D hl hD hd i hi (fun k h => hn i k h hi) true ih i 0 rfl (by omega)
    refine Ev.step (f := fun k => kimberlitelaw01_SpanMet.j4 k l o P D (i : Int) false) (fun k => ?_) ?_
    · simp only [kimberlitelaw01_SpanMet.l0]
      rw [if_pos (by omega), if_pos (by omega), rdN D i hi, if_neg (by omega), if_neg (by omega)]
      by_cases h0 : i = 0
      · subst h0
        simp
      · rw [if_pos (by omega), wrap_pred (by omega) hi (by omega), if_pos (by omega), if_pos (by omega), if_pos (by omega), rdN P (i - 1) (by omega), rdN P i (by omega)]
        have h1 := hasc (i - 1) (by omega)
        simp only [show i - 1 + 1 = i by omega] at h1
        rw [decide_eq_false (by omega)]
    · refine Ev.step (fun k => ?_) l1
      simp only [kimberlitelaw01_SpanMet.j4]
      rw [if_neg (by simp)]
      rfl
theorem SpanMet_pure (l : List S32) (o : List Int) (ho : o.length ≤ 9223372036854775807) : ∃ k, kimberlitelaw01_SpanMet.f k l o = some true := by
  refine Ev.rounds ?_
  have big : Ev (fun k => kimberlitelaw01_SpanMet.j0 k l o true) true := Ev.step (f := fun k => (kimberlitelaw01_alive.f k).bind fun t => some t) (fun k => by simp only [kimberlitelaw01_SpanMet.j0]; rw [if_pos trivial]) (Ev.bind alive_ev (Ev.now _))
  unfold kimberlitelaw01_SpanMet.f
  by_cases h128 : (l.length : Int) > 128
  · simp only [if_pos h128]
    exact big
  · simp only [if_neg h128]
    by_cases h200 : (o.length : Int) > 200
    · rw [decide_eq_true h200]
      exact big
    · rw [decide_eq_false h200]
      by_cases hl : listR l = 0
      · have hp := pts_all hl
        have hsub := hp.sub
        have hd : ∀ x ∈ (stabF l (byL (kHi l) l.length)).2, 0 ≤ x ∧ x < (l.length : Int) := fun x hx => (byL_mem _ _ x).1 (hsub x hx)
        have hDl : (stabF l (byL (kHi l) l.length)).2.length ≤ l.length := by
          have := (stabF_len l (byL (kHi l) l.length) _ (Nat.le_refl _)).2
          rwa [List.take_length, byL_len] at this
        have hst : span_stabbed.f l = some ((stabF l (byL (kHi l) l.length)).1, (stabF l (byL (kHi l) l.length)).2, 0) := by unfold span_stabbed.f stabR; rw [if_pos hl]
        generalize hP : (stabF l (byL (kHi l) l.length)).1 = P at hp hst
        generalize hD : (stabF l (byL (kHi l) l.length)).2 = D at hp hst hd hDl
        have hg := (listR_good hl).2
        have e1 : span_Stab.f l = some (P, 0) := by unfold span_Stab.f; rw [hst]; rfl
        have e2 : span_Disjoint.f l = some (D, 0) := by unfold span_Disjoint.f; rw [hst]; rfl
        have hasc : ∀ i, ∀ h : i + 1 < P.length, P[i] < P[i + 1] := fun i h => by
          have hlen := hp.len
          have h1 := hp.low i (i + 1) (by omega) (by omega)
          have h2 := hp.at_ (i + 1) h
          have h3 := spL_good hg (D[i + 1]'(by omega)) (hd _ (List.getElem_mem _)).1 (hd _ (List.getElem_mem _)).2
          omega
        have hn : ∀ i k, ∀ h : k < i, ∀ hi : i < D.length, ¬ ((spL l D[i]).f0 < (spL l (D[k]'(by omega))).f1 ∧ (spL l (D[k]'(by omega))).f0 < (spL l D[i]).f1) := fun i k h hi hc => by
          have hlen := hp.len
          have h1 := hp.low k i h hi
          have h2 := hp.at_ k (by omega)
          omega
        have hmet : l.all (metS P) = true := by
          rw [List.all_eq_true]
          intro s hs
          obtain ⟨j, hj, rfl⟩ := List.mem_iff_getElem.1 hs
          rw [metS_iff]
          have := hp.met (j : Int) ((byL_mem _ _ _).2 ⟨by omega, by omega⟩)
          unfold spL at this
          rw [Int.toNat_natCast, List.getD_eq_getElem?_getD, List.getElem?_eq_getElem hj] at this
          exact this
        have main := met_l0 l o P D (by omega) (by omega) hd hp.len hasc hn ho (fun h => pts_least hp hd o h) _ 0 rfl
        refine Ev.step (f := fun k => kimberlitelaw01_SpanMet.j1 k l o P 0 D 0 false) (fun k => by simp only [kimberlitelaw01_SpanMet.j0]; rw [if_neg (by simp), e1, e2]; simp) ?_
        have hlen := hp.len
        refine Ev.step (f := fun k => (kimberlitelaw01_meets.f k l P).bind fun t507 => (kimberlitelaw01_SpanMet.j2 k l o P D (!t507))) (fun k => by simp only [kimberlitelaw01_SpanMet.j1]; rw [if_neg (by simp), if_pos (by omega)]) ?_
        refine Ev.bind (meets_ev l P (by omega) (by omega)) ?_
        rw [hmet]
        refine Ev.step (fun k => ?_) main
        simp only [kimberlitelaw01_SpanMet.j2]
        rw [if_neg (by simp)]
        rfl
      · have hst : span_stabbed.f l = some ([], [], listR l) := by unfold span_stabbed.f stabR; rw [if_neg hl]
        have e1 : span_Stab.f l = some ([], listR l) := by unfold span_Stab.f; rw [hst]; rfl
        have e2 : span_Disjoint.f l = some ([], listR l) := by unfold span_Disjoint.f; rw [hst]; rfl
        refine Ev.step (f := fun k => kimberlitelaw01_SpanMet.j1 k l o [] (listR l) [] (listR l) true) (fun k => by simp only [kimberlitelaw01_SpanMet.j0]; rw [if_neg (by simp), e1, e2]; simp [hl]) ?_
        refine Ev.step (f := fun k => (kimberlitelaw01_alive.f k).bind fun t => some t) (fun k => by simp only [kimberlitelaw01_SpanMet.j1]; rw [if_pos trivial, if_pos trivial]; simp [wrap64]) ?_
        exact Ev.bind alive_ev (Ev.now _)
theorem SpanMet_walk {W : World} (a0 : Option Addr) (cap0 : Nat) (l0 : List S32) (c0 : l0.length ≤ cap0) (hr0 : Kd.C k32 W a0 l0.length l0) (w0 : ∀ s ∈ l0, okS s) (a1 : Option Addr) (cap1 : Nat) (l1 : List Int) (c1 : l1.length ≤ cap1) (hr1 : Kd.C (Kd.int .i64) W a1 l1.length l1) (w1 : ∀ x ∈ l1, (Lit.int .i64 x).wf = true) :
    Calls Try.prog 8 #[.slice a0 l0.length cap0, .slice a1 l1.length cap1] W fun e w' => e = .returned (.bool true) ∧ Below W.heap.size W w' := by
  obtain ⟨k, h⟩ := SpanMet_pure l0 l1 hr1.2.1
  exact kimberlitelaw01_SpanMet.calls k _ _ l0 _ _ l1 true W hr0 c0 hr1 c1 h
end Go.Proofs.Ytningpmoojnomaa.Pr
end
section
namespace Go.Proofs.Ytningpmoojnomaa.spanMet
open Go.ChangeShapes Go.WideShapes Go.ChangeAt Go.RowKit Go.Proofs.Ytningpmoojnomaa.Pr
set_option linter.unusedVariables false
theorem own : ownKnob Try.prog.godebug = none := by kernel_rfl
theorem laidOut : laidOutB Try.prog = true := by kernel_rfl
set_option maxRecDepth 100000 in
theorem lifted (os : Os) (started : os.Started) (H : Type) (enc : TypeId × Value → H) :
    ReturnsInHanded {} Try.checked os 8 .any (Rows.spanMetSpec.pre6 enc Try.prog Try.f8 Rows.spanMetRow.domain false) (Rows.spanMetSpec.post enc Try.prog Try.f8 false true false false) := by
  refine returnsInHanded_of_change (C := Try.checked) own started (by kernel_rfl) Try.func8
    (ChangeSpec.witness6 (enc := enc) (C := Try.checked) false ⟨#[], #[.slice none 0 0, .slice none 0 0], []⟩ 8 (by kernel_rfl) (by kernel_rfl) (by kernel_rfl) (by kernel_rfl)) ?_
  intro W base args ds gs before hval0 hW hcnd _
  have hval : ∀ (j : Nat) t v, Try.f8.params[j]? = some t → args[j]? = some v → Value.okWide Try.prog W .any base t v := hval0
  have hW' := hW
  obtain ⟨p, q, hA0, hV, rfl, hfz, hnd⟩ := hW
  have hA : DataW.TrodAll enc Try.prog W 0 (fun _ => true) true Try.f8.params.toList args.toList ds p := hA0
  rw [Try.params8] at hA hval
  obtain ⟨v0, vs0, d0, ds0, p0, q0, hargs, rfl, rfl, h0, r0⟩ := trodAll_cons hA
  obtain ⟨v1, vs1, d1, ds1, p1, q1, rfl, rfl, rfl, h1, r1⟩ := trodAll_cons r0
  obtain ⟨rfl, rfl, rfl⟩ := trodAll_nil r1
  obtain rfl : args = #[v0, v1] := by cases args; simp_all
  obtain ⟨rfl, rfl⟩ := trodVars_none hV
  have k0 := h0
  have lt0 : ∀ x ∈ p0, x.block < W.heap.size := by obtain ⟨m, hm⟩ := k0; exact DataW.trod_lt m _ _ _ hm
  obtain ⟨a0, len0, cap0, rfl⟩ := okWide_slice Try.underlying22 (hval 0 22 v0 rfl rfl)
  obtain ⟨l0, rfl, c0, hr0, w0⟩ := open_spans h0
  have k1 := h1
  have lt1 : ∀ x ∈ p1, x.block < W.heap.size := by obtain ⟨m, hm⟩ := k1; exact DataW.trod_lt m _ _ _ hm
  obtain ⟨a1, len1, cap1, rfl⟩ := okWide_slice Try.underlying33 (hval 1 33 v1 rfl rfl)
  obtain ⟨l1, rfl, c1, hr1, w1⟩ := open_nums h1
  clear hA0 hval0
  try simp only [List.append_nil] at hW'
  refine (SpanMet_walk a0 cap0 l0 c0 hr0 w0 a1 cap1 l1 c1 hr1 w1).mono fun e W' ⟨he, bel⟩ => ?_
  subst he
  exact ⟨_, rfl, _, _, _, [], _, [], hW', trodAll_mk1 (shut_bool Try.underlying4 _), (trodAll_cons_mk (Below.trod laidOut (by kernel_rfl) (of_decide_eq_true (by kernel_rfl)) k0 bel lt0) (trodAll_cons_mk (Below.trod laidOut (by kernel_rfl) (of_decide_eq_true (by kernel_rfl)) k1 bel lt1) trodAll_mk0)), rfl, bel.frame _, fun h => by cases h⟩
theorem over : Rows.spanMetRow.holds Try.pinned (OpenSpec.ofChange Rows.spanMetSpec) :=
  OpenClaim.holds_of_wide 8 Try.f8 rfl rfl rfl rfl rfl rfl rfl ⟨rfl, rfl, rfl, rfl, rfl⟩ rfl rfl rfl rfl rfl (by kernel_rfl) Try.func8 (by kernel_rfl)
    (of_decide_eq_true (by kernel_rfl)) (by unfold Func.isWrapper; first | (rw [if_pos (by decide +kernel)]; kernel_rfl) | (rw [if_neg (by decide +kernel)]; exact ⟨rfl, rfl⟩))
    (fun os started H enc _ => lifted os started H enc)
theorem proved : Rows.SpanMetSaid := over
end Go.Proofs.Ytningpmoojnomaa.spanMet
namespace Go.Proofs.Ytningpmoojnomaa
/-- The row, under a short name, for the claim. -/
theorem spanMet_holds : Rows.SpanMetSaid := spanMet.proved
end Go.Proofs.Ytningpmoojnomaa
end
