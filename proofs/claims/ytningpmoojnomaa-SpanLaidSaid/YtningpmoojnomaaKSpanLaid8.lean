/- What the proof of the law needs, trimmed and merged by wip/pack.py out of the texts YtningpmoojnomaaPrx35, YtningpmoojnomaaAlive, YtningpmoojnomaaArgs. No condition. -/
import Derived.Deep.Slices
import Derived.Deep.Fields
import Derived.ChangeSame
import Derived.Lib.SmallJoins
import Derived.OpenShut
import Derived.Test.YtningpmoojnomaaKSpanLaid0
import Derived.Test.YtningpmoojnomaaKSpanLaid1
import Derived.Test.YtningpmoojnomaaKSpanLaid2
import Derived.Test.YtningpmoojnomaaKSpanLaid3
import Derived.Test.YtningpmoojnomaaKSpanLaid4
import Derived.Test.YtningpmoojnomaaKSpanLaid5
import Derived.Test.YtningpmoojnomaaKSpanLaid6
import Derived.Test.YtningpmoojnomaaKSpanLaid7
section
namespace Go.Proofs.Ytningpmoojnomaa.Pr
open Go.RowKit Go.Proofs.YtningpmoojnomaaW.PrintWords Go.Proofs.YtningpmoojnomaaW.PrintLast Go.Proofs.YtningpmoojnomaaW.PrintMore
attribute [local go_sem] max2_int min2_int max_two min_two max_three min_three max_four min_four   -- for this text's walks alone
set_option linter.unusedVariables false
set_option linter.unusedSimpArgs false
mutual
def kimberlitelaw01_SpanLaid.j0 : Nat → List (S32) → Int → List Int → Int → Int → Int → Int → Int → Bool → Option (Bool)
 | 0, _, _, _, _, _, _, _, _, _ => none
 | k + 1, x0, x1, x5, x6, x7, x8, x9, x10, x36 => if x36 = true then (if x7 = x10 then (if (x5.length : Int) = 0 then (if x6 = 0 then (if x8 = 0 then (if x9 = 0 then ((kimberlitelaw01_alive.f k).bind fun t532 => (some t532)) else (some false)) else (some false)) else (some false)) else (some false)) else (some false)) else (if (x5.length : Int) = (x0.length : Int) then (kimberlitelaw01_SpanLaid.j1 k x0 x1 x5 x6 x8 x9 (x6 != x8)) else (kimberlitelaw01_SpanLaid.j1 k x0 x1 x5 x6 x8 x9 true))
def kimberlitelaw01_SpanLaid.j1 : Nat → List (S32) → Int → List Int → Int → Int → Int → Bool → Option (Bool)
 | 0, _, _, _, _, _, _, _ => none
 | k + 1, x0, x1, x5, x6, x8, x9, x69 => if x69 = true then (some false) else (kimberlitelaw01_SpanLaid.l0 k x0 x1 x5 x6 x8 x9 0 0 0)
def kimberlitelaw01_SpanLaid.l0 : Nat → List (S32) → Int → List Int → Int → Int → Int → Int → Int → Int → Option (Bool)
 | 0, _, _, _, _, _, _, _, _, _ => none
 | k + 1, x0, x1, x5, x6, x8, x9, x11, x12, x13 => if x13 < (x0.length : Int) then (if 0 ≤ x13 then (if x13 < (x5.length : Int) then (if (rd x5 x13) < 0 then (kimberlitelaw01_SpanLaid.j3 k x0 x1 x5 x6 x8 x9 x11 x12 x13 true) else (kimberlitelaw01_SpanLaid.j3 k x0 x1 x5 x6 x8 x9 x11 x12 x13 (decide ((rd x5 x13) ≥ x6)))) else (none)) else (none)) else (if x11 = x8 then (if x12 ≤ x8 then (if x12 < x8 then ((kimberlitelaw01_alive.f k).bind fun t545 => (some t545)) else (if x1 ≥ x9 then ((kimberlitelaw01_alive.f k).bind fun t546 => (some t546)) else (if x8 = 0 then ((kimberlitelaw01_alive.f k).bind fun t547 => (some t547)) else (some false)))) else (some false)) else (some false))
def kimberlitelaw01_SpanLaid.j3 : Nat → List (S32) → Int → List Int → Int → Int → Int → Int → Int → Int → Bool → Option (Bool)
 | 0, _, _, _, _, _, _, _, _, _, _ => none
 | k + 1, x0, x1, x5, x6, x8, x9, x11, x12, x13, x88 => if x88 = true then (some false) else (kimberlitelaw01_SpanLaid.l1 k x0 x1 x5 x6 x8 x9 x11 x12 x13 0)
def kimberlitelaw01_SpanLaid.l1 : Nat → List (S32) → Int → List Int → Int → Int → Int → Int → Int → Int → Int → Option (Bool)
 | 0, _, _, _, _, _, _, _, _, _, _ => none
 | k + 1, x0, x1, x5, x6, x8, x9, x11, x12, x13, x14 => if x14 < x13 then (if 0 ≤ x13 then (if x13 < (x5.length : Int) then (if 0 ≤ x14 then (if x14 < (x5.length : Int) then (if (rd x5 x13) = (rd x5 x14) then (if x13 < (x0.length : Int) then (if x14 < (x0.length : Int) then (if ((rd_T32 x0 x13).f0) < ((rd_T32 x0 x14).f1) then (kimberlitelaw01_SpanLaid.j5 k x0 x1 x5 x6 x8 x9 x11 x12 x13 x14 (decide (((rd_T32 x0 x14).f0) < ((rd_T32 x0 x13).f1)))) else (kimberlitelaw01_SpanLaid.j5 k x0 x1 x5 x6 x8 x9 x11 x12 x13 x14 false)) else (none)) else (none)) else (kimberlitelaw01_SpanLaid.j5 k x0 x1 x5 x6 x8 x9 x11 x12 x13 x14 false)) else (none)) else (none)) else (none)) else (none)) else (if 0 ≤ x13 then (if x13 < (x0.length : Int) then (if ((rd_T32 x0 x13).f0) ≤ x9 then (kimberlitelaw01_SpanLaid.j6 k x0 x1 x5 x6 x8 x9 x11 x12 x13 (decide (x9 < ((rd_T32 x0 x13).f1)))) else (kimberlitelaw01_SpanLaid.j6 k x0 x1 x5 x6 x8 x9 x11 x12 x13 false)) else (none)) else (none))
def kimberlitelaw01_SpanLaid.j5 : Nat → List (S32) → Int → List Int → Int → Int → Int → Int → Int → Int → Int → Bool → Option (Bool)
 | 0, _, _, _, _, _, _, _, _, _, _, _ => none
 | k + 1, x0, x1, x5, x6, x8, x9, x11, x12, x13, x14, x128 => if x128 = true then (some false) else (kimberlitelaw01_SpanLaid.l1 k x0 x1 x5 x6 x8 x9 x11 x12 x13 (wrap64 (x14 + 1)))
def kimberlitelaw01_SpanLaid.j6 : Nat → List (S32) → Int → List Int → Int → Int → Int → Int → Int → Int → Bool → Option (Bool)
 | 0, _, _, _, _, _, _, _, _, _, _ => none
 | k + 1, x0, x1, x5, x6, x8, x9, x11, x12, x13, x144 => if x144 = true then (kimberlitelaw01_SpanLaid.j7 k x0 x1 x5 x6 x8 x9 (wrap64 (x11 + 1)) x12 x13) else (kimberlitelaw01_SpanLaid.j7 k x0 x1 x5 x6 x8 x9 x11 x12 x13)
def kimberlitelaw01_SpanLaid.j7 : Nat → List (S32) → Int → List Int → Int → Int → Int → Int → Int → Int → Option (Bool)
 | 0, _, _, _, _, _, _, _, _, _ => none
 | k + 1, x0, x1, x5, x6, x8, x9, x11, x12, x13 => if 0 ≤ x13 then (if x13 < (x0.length : Int) then (if ((rd_T32 x0 x13).f0) ≤ x1 then (kimberlitelaw01_SpanLaid.j8 k x0 x1 x5 x6 x8 x9 x11 x12 x13 (decide (x1 < ((rd_T32 x0 x13).f1)))) else (kimberlitelaw01_SpanLaid.j8 k x0 x1 x5 x6 x8 x9 x11 x12 x13 false)) else (none)) else (none)
def kimberlitelaw01_SpanLaid.j8 : Nat → List (S32) → Int → List Int → Int → Int → Int → Int → Int → Int → Bool → Option (Bool)
 | 0, _, _, _, _, _, _, _, _, _, _ => none
 | k + 1, x0, x1, x5, x6, x8, x9, x11, x12, x13, x162 => if x162 = true then (kimberlitelaw01_SpanLaid.l0 k x0 x1 x5 x6 x8 x9 x11 (wrap64 (x12 + 1)) (wrap64 (x13 + 1))) else (kimberlitelaw01_SpanLaid.l0 k x0 x1 x5 x6 x8 x9 x11 x12 (wrap64 (x13 + 1)))
end
def kimberlitelaw01_SpanLaid.f (k : Nat) (l0 : List (S32)) (a1 : Int) : Option (Bool) := if (l0.length : Int) > 128 then ((kimberlitelaw01_alive.f k).bind fun t523 => (some t523)) else ((span_Trays.f l0).bind fun bt524 => ((span_Depth.f k l0).bind fun bt529 => (if bt524.2.2 = 0 then (kimberlitelaw01_SpanLaid.j0 k l0 a1 bt524.1 bt524.2.1 bt524.2.2 bt529.1 bt529.2.1 bt529.2.2 (bt529.2.2 != 0)) else (kimberlitelaw01_SpanLaid.j0 k l0 a1 bt524.1 bt524.2.1 bt524.2.2 bt529.1 bt529.2.1 bt529.2.2 true))))
theorem kimberlitelaw01_SpanLaid.mono_l : ∀ k, (∀ y0 y1 y2 y3 y4 y5 y6 y7 y8, LeO (kimberlitelaw01_SpanLaid.j0 k y0 y1 y2 y3 y4 y5 y6 y7 y8) (kimberlitelaw01_SpanLaid.j0 (k + 1) y0 y1 y2 y3 y4 y5 y6 y7 y8)) ∧ (∀ y0 y1 y2 y3 y4 y5 y6, LeO (kimberlitelaw01_SpanLaid.j1 k y0 y1 y2 y3 y4 y5 y6) (kimberlitelaw01_SpanLaid.j1 (k + 1) y0 y1 y2 y3 y4 y5 y6)) ∧ (∀ y0 y1 y2 y3 y4 y5 y6 y7 y8, LeO (kimberlitelaw01_SpanLaid.l0 k y0 y1 y2 y3 y4 y5 y6 y7 y8) (kimberlitelaw01_SpanLaid.l0 (k + 1) y0 y1 y2 y3 y4 y5 y6 y7 y8)) ∧ (∀ y0 y1 y2 y3 y4 y5 y6 y7 y8 y9, LeO (kimberlitelaw01_SpanLaid.j3 k y0 y1 y2 y3 y4 y5 y6 y7 y8 y9) (kimberlitelaw01_SpanLaid.j3 (k + 1) y0 y1 y2 y3 y4 y5 y6 y7 y8 y9)) ∧ (∀ y0 y1 y2 y3 y4 y5 y6 y7 y8 y9, LeO (kimberlitelaw01_SpanLaid.l1 k y0 y1 y2 y3 y4 y5 y6 y7 y8 y9) (kimberlitelaw01_SpanLaid.l1 (k + 1) y0 y1 y2 y3 y4 y5 y6 y7 y8 y9)) ∧ (∀ y0 y1 y2 y3 y4 y5 y6 y7 y8 y9 y10, LeO (kimberlitelaw01_SpanLaid.j5 k y0 y1 y2 y3 y4 y5 y6 y7 y8 y9 y10) (kimberlitelaw01_SpanLaid.j5 (k + 1) y0 y1 y2 y3 y4 y5 y6 y7 y8 y9 y10)) ∧ (∀ y0 y1 y2 y3 y4 y5 y6 y7 y8 y9, LeO (kimberlitelaw01_SpanLaid.j6 k y0 y1 y2 y3 y4 y5 y6 y7 y8 y9) (kimberlitelaw01_SpanLaid.j6 (k + 1) y0 y1 y2 y3 y4 y5 y6 y7 y8 y9)) ∧ (∀ y0 y1 y2 y3 y4 y5 y6 y7 y8, LeO (kimberlitelaw01_SpanLaid.j7 k y0 y1 y2 y3 y4 y5 y6 y7 y8) (kimberlitelaw01_SpanLaid.j7 (k + 1) y0 y1 y2 y3 y4 y5 y6 y7 y8)) ∧ (∀ y0 y1 y2 y3 y4 y5 y6 y7 y8 y9, LeO (kimberlitelaw01_SpanLaid.j8 k y0 y1 y2 y3 y4 y5 y6 y7 y8 y9) (kimberlitelaw01_SpanLaid.j8 (k + 1) y0 y1 y2 y3 y4 y5 y6 y7 y8 y9))
 | 0 => ⟨fun _ _ _ _ _ _ _ _ _ r h => by simp [kimberlitelaw01_SpanLaid.j0] at h, fun _ _ _ _ _ _ _ r h => by simp [kimberlitelaw01_SpanLaid.j1] at h, fun _ _ _ _ _ _ _ _ _ r h => by simp [kimberlitelaw01_SpanLaid.l0] at h, fun _ _ _ _ _ _ _ _ _ _ r h => by simp [kimberlitelaw01_SpanLaid.j3] at h, fun _ _ _ _ _ _ _ _ _ _ r h => by simp [kimberlitelaw01_SpanLaid.l1] at h, fun _ _ _ _ _ _ _ _ _ _ _ r h => by simp [kimberlitelaw01_SpanLaid.j5] at h, fun _ _ _ _ _ _ _ _ _ _ r h => by simp [kimberlitelaw01_SpanLaid.j6] at h, fun _ _ _ _ _ _ _ _ _ r h => by simp [kimberlitelaw01_SpanLaid.j7] at h, fun _ _ _ _ _ _ _ _ _ _ r h => by simp [kimberlitelaw01_SpanLaid.j8] at h⟩
 | k + 1 => by
  obtain ⟨ih0, ih1, ih2, ih3, ih4, ih5, ih6, ih7, ih8⟩ := kimberlitelaw01_SpanLaid.mono_l k
  refine ⟨?_, ?_, ?_, ?_, ?_, ?_, ?_, ?_, ?_⟩
  · intro y0 y1 y2 y3 y4 y5 y6 y7 y8
    unfold kimberlitelaw01_SpanLaid.j0
    repeat' first
    | (with_reducible exact ih0 _ _ _ _ _ _ _ _ _)
    | (with_reducible exact ih1 _ _ _ _ _ _ _)
    | (with_reducible exact ih2 _ _ _ _ _ _ _ _ _)
    | (with_reducible exact ih3 _ _ _ _ _ _ _ _ _ _)
    | (with_reducible exact ih4 _ _ _ _ _ _ _ _ _ _)
    | (with_reducible exact ih5 _ _ _ _ _ _ _ _ _ _ _)
    | (with_reducible exact ih6 _ _ _ _ _ _ _ _ _ _)
    | (with_reducible exact ih7 _ _ _ _ _ _ _ _ _)
    | (with_reducible exact ih8 _ _ _ _ _ _ _ _ _ _)
    | (with_reducible exact kimberlitelaw01_alive.mono _)
    | (with_reducible exact span_Depth.mono _ _)
    | (with_reducible exact LeO.refl _)
    | (with_reducible exact LeO.none _)
    | (with_reducible refine LeO.ite ?_ ?_)
    | (with_reducible refine LeO.bind ?_ (fun _ => ?_))
    | exact ih0 _ _ _ _ _ _ _ _ _
    | exact ih1 _ _ _ _ _ _ _
    | exact ih2 _ _ _ _ _ _ _ _ _
    | exact ih3 _ _ _ _ _ _ _ _ _ _
    | exact ih4 _ _ _ _ _ _ _ _ _ _
    | exact ih5 _ _ _ _ _ _ _ _ _ _ _
    | exact ih6 _ _ _ _ _ _ _ _ _ _
    | exact ih7 _ _ _ _ _ _ _ _ _
    | exact ih8 _ _ _ _ _ _ _ _ _ _
    | exact kimberlitelaw01_alive.mono _
    | exact span_Depth.mono _ _
    | exact LeO.none _
    | refine LeO.ite ?_ ?_
    | refine LeO.bind ?_ (fun _ => ?_)
  · intro y0 y1 y2 y3 y4 y5 y6
    unfold kimberlitelaw01_SpanLaid.j1
    repeat' first
    | (with_reducible exact ih0 _ _ _ _ _ _ _ _ _)
    | (with_reducible exact ih1 _ _ _ _ _ _ _)
    | (with_reducible exact ih2 _ _ _ _ _ _ _ _ _)
    | (with_reducible exact ih3 _ _ _ _ _ _ _ _ _ _)
    | (with_reducible exact ih4 _ _ _ _ _ _ _ _ _ _)
    | (with_reducible exact ih5 _ _ _ _ _ _ _ _ _ _ _)
    | (with_reducible exact ih6 _ _ _ _ _ _ _ _ _ _)
    | (with_reducible exact ih7 _ _ _ _ _ _ _ _ _)
    | (with_reducible exact ih8 _ _ _ _ _ _ _ _ _ _)
    | (with_reducible exact kimberlitelaw01_alive.mono _)
    | (with_reducible exact span_Depth.mono _ _)
    | (with_reducible exact LeO.refl _)
    | (with_reducible exact LeO.none _)
    | (with_reducible refine LeO.ite ?_ ?_)
    | (with_reducible refine LeO.bind ?_ (fun _ => ?_))
    | exact ih0 _ _ _ _ _ _ _ _ _
    | exact ih1 _ _ _ _ _ _ _
    | exact ih2 _ _ _ _ _ _ _ _ _
    | exact ih3 _ _ _ _ _ _ _ _ _ _
    | exact ih4 _ _ _ _ _ _ _ _ _ _
    | exact ih5 _ _ _ _ _ _ _ _ _ _ _
    | exact ih6 _ _ _ _ _ _ _ _ _ _
    | exact ih7 _ _ _ _ _ _ _ _ _
    | exact ih8 _ _ _ _ _ _ _ _ _ _
    | exact kimberlitelaw01_alive.mono _
    | exact span_Depth.mono _ _
    | exact LeO.none _
    | refine LeO.ite ?_ ?_
    | refine LeO.bind ?_ (fun _ => ?_)
  · intro y0 y1 y2 y3 y4 y5 y6 y7 y8
    unfold kimberlitelaw01_SpanLaid.l0
    repeat' first
    | (with_reducible exact ih0 _ _ _ _ _ _ _ _ _)
    | (with_reducible exact ih1 _ _ _ _ _ _ _)
    | (with_reducible exact ih2 _ _ _ _ _ _ _ _ _)
    | (with_reducible exact ih3 _ _ _ _ _ _ _ _ _ _)
    | (with_reducible exact ih4 _ _ _ _ _ _ _ _ _ _)
    | (with_reducible exact ih5 _ _ _ _ _ _ _ _ _ _ _)
    | (with_reducible exact ih6 _ _ _ _ _ _ _ _ _ _)
    | (with_reducible exact ih7 _ _ _ _ _ _ _ _ _)
    | (with_reducible exact ih8 _ _ _ _ _ _ _ _ _ _)
    | (with_reducible exact kimberlitelaw01_alive.mono _)
    | (with_reducible exact span_Depth.mono _ _)
    | (with_reducible exact LeO.refl _)
    | (with_reducible exact LeO.none _)
    | (with_reducible refine LeO.ite ?_ ?_)
    | (with_reducible refine LeO.bind ?_ (fun _ => ?_))
    | exact ih0 _ _ _ _ _ _ _ _ _
    | exact ih1 _ _ _ _ _ _ _
    | exact ih2 _ _ _ _ _ _ _ _ _
    | exact ih3 _ _ _ _ _ _ _ _ _ _
    | exact ih4 _ _ _ _ _ _ _ _ _ _
    | exact ih5 _ _ _ _ _ _ _ _ _ _ _
    | exact ih6 _ _ _ _ _ _ _ _ _ _
    | exact ih7 _ _ _ _ _ _ _ _ _
    | exact ih8 _ _ _ _ _ _ _ _ _ _
    | exact kimberlitelaw01_alive.mono _
    | exact span_Depth.mono _ _
    | exact LeO.none _
    | refine LeO.ite ?_ ?_
    | refine LeO.bind ?_ (fun _ => ?_)
  · intro y0 y1 y2 y3 y4 y5 y6 y7 y8 y9
    unfold kimberlitelaw01_SpanLaid.j3
    repeat' first
    | (with_reducible exact ih0 _ _ _ _ _ _ _ _ _)
    | (with_reducible exact ih1 _ _ _ _ _ _ _)
    | (with_reducible exact ih2 _ _ _ _ _ _ _ _ _)
    | (with_reducible exact ih3 _ _ _ _ _ _ _ _ _ _)
    | (with_reducible exact ih4 _ _ _ _ _ _ _ _ _ _)
    | (with_reducible exact ih5 _ _ _ _ _ _ _ _ _ _ _)
    | (with_reducible exact ih6 _ _ _ _ _ _ _ _ _ _)
    | (with_reducible exact ih7 _ _ _ _ _ _ _ _ _)
    | (with_reducible exact ih8 _ _ _ _ _ _ _ _ _ _)
    | (with_reducible exact kimberlitelaw01_alive.mono _)
    | (with_reducible exact span_Depth.mono _ _)
    | (with_reducible exact LeO.refl _)
    | (with_reducible exact LeO.none _)
    | (with_reducible refine LeO.ite ?_ ?_)
    | (with_reducible refine LeO.bind ?_ (fun _ => ?_))
    | exact ih0 _ _ _ _ _ _ _ _ _
    | exact ih1 _ _ _ _ _ _ _
    | exact ih2 _ _ _ _ _ _ _ _ _
    | exact ih3 _ _ _ _ _ _ _ _ _ _
    | exact ih4 _ _ _ _ _ _ _ _ _ _
    | exact ih5 _ _ _ _ _ _ _ _ _ _ _
    | exact ih6 _ _ _ _ _ _ _ _ _ _
    | exact ih7 _ _ _ _ _ _ _ _ _
    | exact ih8 _ _ _ _ _ _ _ _ _ _
    | exact kimberlitelaw01_alive.mono _
    | exact span_Depth.mono _ _
    | exact LeO.none _
    | refine LeO.ite ?_ ?_
    | refine LeO.bind ?_ (fun _ => ?_)
  · intro y0 y1 y2 y3 y4 y5 y6 y7 y8 y9
    unfold kimberlitelaw01_SpanLaid.l1
    repeat' first
    | (with_reducible exact ih0 _ _ _ _ _ _ _ _ _)
    | (with_reducible exact ih1 _ _ _ _ _ _ _)
    | (with_reducible exact ih2 _ _ _ _ _ _ _ _ _)
    | (with_reducible exact ih3 _ _ _ _ _ _ _ _ _ _)
    | (with_reducible exact ih4 _ _ _ _ _ _ _ _ _ _)
    | (with_reducible exact ih5 _ _ _ _ _ _ _ _ _ _ _)
    | (with_reducible exact ih6 _ _ _ _ _ _ _ _ _ _)
    | (with_reducible exact ih7 _ _ _ _ _ _ _ _ _)
    | (with_reducible exact ih8 _ _ _ _ _ _ _ _ _ _)
    | (with_reducible exact kimberlitelaw01_alive.mono _)
    | (with_reducible exact span_Depth.mono _ _)
    | (with_reducible exact LeO.refl _)
    | (with_reducible exact LeO.none _)
    | (with_reducible refine LeO.ite ?_ ?_)
    | (with_reducible refine LeO.bind ?_ (fun _ => ?_))
    | exact ih0 _ _ _ _ _ _ _ _ _
    | exact ih1 _ _ _ _ _ _ _
    | exact ih2 _ _ _ _ _ _ _ _ _
    | exact ih3 _ _ _ _ _ _ _ _ _ _
    | exact ih4 _ _ _ _ _ _ _ _ _ _
    | exact ih5 _ _ _ _ _ _ _ _ _ _ _
    | exact ih6 _ _ _ _ _ _ _ _ _ _
    | exact ih7 _ _ _ _ _ _ _ _ _
    | exact ih8 _ _ _ _ _ _ _ _ _ _
    | exact kimberlitelaw01_alive.mono _
    | exact span_Depth.mono _ _
    | exact LeO.none _
    | refine LeO.ite ?_ ?_
    | refine LeO.bind ?_ (fun _ => ?_)
  · intro y0 y1 y2 y3 y4 y5 y6 y7 y8 y9 y10
    unfold kimberlitelaw01_SpanLaid.j5
    repeat' first
    | (with_reducible exact ih0 _ _ _ _ _ _ _ _ _)
    | (with_reducible exact ih1 _ _ _ _ _ _ _)
    | (with_reducible exact ih2 _ _ _ _ _ _ _ _ _)
    | (with_reducible exact ih3 _ _ _ _ _ _ _ _ _ _)
    | (with_reducible exact ih4 _ _ _ _ _ _ _ _ _ _)
    | (with_reducible exact ih5 _ _ _ _ _ _ _ _ _ _ _)
    | (with_reducible exact ih6 _ _ _ _ _ _ _ _ _ _)
    | (with_reducible exact ih7 _ _ _ _ _ _ _ _ _)
    | (with_reducible exact ih8 _ _ _ _ _ _ _ _ _ _)
    | (with_reducible exact kimberlitelaw01_alive.mono _)
    | (with_reducible exact span_Depth.mono _ _)
    | (with_reducible exact LeO.refl _)
    | (with_reducible exact LeO.none _)
    | (with_reducible refine LeO.ite ?_ ?_)
    | (with_reducible refine LeO.bind ?_ (fun _ => ?_))
    | exact ih0 _ _ _ _ _ _ _ _ _
    | exact ih1 _ _ _ _ _ _ _
    | exact ih2 _ _ _ _ _ _ _ _ _
    | exact ih3 _ _ _ _ _ _ _ _ _ _
    | exact ih4 _ _ _ _ _ _ _ _ _ _
    | exact ih5 _ _ _ _ _ _ _ _ _ _ _
    | exact ih6 _ _ _ _ _ _ _ _ _ _
    | exact ih7 _ _ _ _ _ _ _ _ _
    | exact ih8 _ _ _ _ _ _ _ _ _ _
    | exact kimberlitelaw01_alive.mono _
    | exact span_Depth.mono _ _
    | exact LeO.none _
    | refine LeO.ite ?_ ?_
    | refine LeO.bind ?_ (fun _ => ?_)
  · intro y0 y1 y2 y3 y4 y5 y6 y7 y8 y9
    unfold kimberlitelaw01_SpanLaid.j6
    repeat' first
    | (with_reducible exact ih0 _ _ _ _ _ _ _ _ _)
    | (with_reducible exact ih1 _ _ _ _ _ _ _)
    | (with_reducible exact ih2 _ _ _ _ _ _ _ _ _)
    | (with_reducible exact ih3 _ _ _ _ _ _ _ _ _ _)
    | (with_reducible exact ih4 _ _ _ _ _ _ _ _ _ _)
    | (with_reducible exact ih5 _ _ _ _ _ _ _ _ _ _ _)
    | (with_reducible exact ih6 _ _ _ _ _ _ _ _ _ _)
    | (with_reducible exact ih7 _ _ _ _ _ _ _ _ _)
    | (with_reducible exact ih8 _ _ _ _ _ _ _ _ _ _)
    | (with_reducible exact kimberlitelaw01_alive.mono _)
    | (with_reducible exact span_Depth.mono _ _)
    | (with_reducible exact LeO.refl _)
    | (with_reducible exact LeO.none _)
    | (with_reducible refine LeO.ite ?_ ?_)
    | (with_reducible refine LeO.bind ?_ (fun _ => ?_))
    | exact ih0 _ _ _ _ _ _ _ _ _
    | exact ih1 _ _ _ _ _ _ _
    | exact ih2 _ _ _ _ _ _ _ _ _
    | exact ih3 _ _ _ _ _ _ _ _ _ _
    | exact ih4 _ _ _ _ _ _ _ _ _ _
    | exact ih5 _ _ _ _ _ _ _ _ _ _ _
    | exact ih6 _ _ _ _ _ _ _ _ _ _
    | exact ih7 _ _ _ _ _ _ _ _ _
    | exact ih8 _ _ _ _ _ _ _ _ _ _
    | exact kimberlitelaw01_alive.mono _
    | exact span_Depth.mono _ _
    | exact LeO.none _
    | refine LeO.ite ?_ ?_
    | refine LeO.bind ?_ (fun _ => ?_)
  · intro y0 y1 y2 y3 y4 y5 y6 y7 y8
    unfold kimberlitelaw01_SpanLaid.j7
    repeat' first
    | (with_reducible exact ih0 _ _ _ _ _ _ _ _ _)
    | (with_reducible exact ih1 _ _ _ _ _ _ _)
    | (with_reducible exact ih2 _ _ _ _ _ _ _ _ _)
    | (with_reducible exact ih3 _ _ _ _ _ _ _ _ _ _)
    | (with_reducible exact ih4 _ _ _ _ _ _ _ _ _ _)
    | (with_reducible exact ih5 _ _ _ _ _ _ _ _ _ _ _)
    | (with_reducible exact ih6 _ _ _ _ _ _ _ _ _ _)
    | (with_reducible exact ih7 _ _ _ _ _ _ _ _ _)
    | (with_reducible exact ih8 _ _ _ _ _ _ _ _ _ _)
    | (with_reducible exact kimberlitelaw01_alive.mono _)
    | (with_reducible exact span_Depth.mono _ _)
    | (with_reducible exact LeO.refl _)
    | (with_reducible exact LeO.none _)
    | (with_reducible refine LeO.ite ?_ ?_)
    | (with_reducible refine LeO.bind ?_ (fun _ => ?_))
    | exact ih0 _ _ _ _ _ _ _ _ _
    | exact ih1 _ _ _ _ _ _ _
    | exact ih2 _ _ _ _ _ _ _ _ _
    | exact ih3 _ _ _ _ _ _ _ _ _ _
    | exact ih4 _ _ _ _ _ _ _ _ _ _
    | exact ih5 _ _ _ _ _ _ _ _ _ _ _
    | exact ih6 _ _ _ _ _ _ _ _ _ _
    | exact ih7 _ _ _ _ _ _ _ _ _
    | exact ih8 _ _ _ _ _ _ _ _ _ _
    | exact kimberlitelaw01_alive.mono _
    | exact span_Depth.mono _ _
    | exact LeO.none _
    | refine LeO.ite ?_ ?_
    | refine LeO.bind ?_ (fun _ => ?_)
  · intro y0 y1 y2 y3 y4 y5 y6 y7 y8 y9
    unfold kimberlitelaw01_SpanLaid.j8
    repeat' first
    | (with_reducible exact ih0 _ _ _ _ _ _ _ _ _)
    | (with_reducible exact ih1 _ _ _ _ _ _ _)
    | (with_reducible exact ih2 _ _ _ _ _ _ _ _ _)
    | (with_reducible exact ih3 _ _ _ _ _ _ _ _ _ _)
    | (with_reducible exact ih4 _ _ _ _ _ _ _ _ _ _)
    | (with_reducible exact ih5 _ _ _ _ _ _ _ _ _ _ _)
    | (with_reducible exact ih6 _ _ _ _ _ _ _ _ _ _)
    | (with_reducible exact ih7 _ _ _ _ _ _ _ _ _)
    | (with_reducible exact ih8 _ _ _ _ _ _ _ _ _ _)
    | (with_reducible exact kimberlitelaw01_alive.mono _)
    | (with_reducible exact span_Depth.mono _ _)
    | (with_reducible exact LeO.refl _)
    | (with_reducible exact LeO.none _)
    | (with_reducible refine LeO.ite ?_ ?_)
    | (with_reducible refine LeO.bind ?_ (fun _ => ?_))
    | exact ih0 _ _ _ _ _ _ _ _ _
    | exact ih1 _ _ _ _ _ _ _
    | exact ih2 _ _ _ _ _ _ _ _ _
    | exact ih3 _ _ _ _ _ _ _ _ _ _
    | exact ih4 _ _ _ _ _ _ _ _ _ _
    | exact ih5 _ _ _ _ _ _ _ _ _ _ _
    | exact ih6 _ _ _ _ _ _ _ _ _ _
    | exact ih7 _ _ _ _ _ _ _ _ _
    | exact ih8 _ _ _ _ _ _ _ _ _ _
    | exact kimberlitelaw01_alive.mono _
    | exact span_Depth.mono _ _
    | exact LeO.none _
    | refine LeO.ite ?_ ?_
    | refine LeO.bind ?_ (fun _ => ?_)
theorem kimberlitelaw01_SpanLaid.mono : ∀ a0 a1 k, LeO (kimberlitelaw01_SpanLaid.f k a0 a1) (kimberlitelaw01_SpanLaid.f (k + 1) a0 a1) := by
 intro a0 a1 k
 obtain ⟨ih0, ih1, ih2, ih3, ih4, ih5, ih6, ih7, ih8⟩ := kimberlitelaw01_SpanLaid.mono_l k
 unfold kimberlitelaw01_SpanLaid.f
 repeat' first
  | (with_reducible exact ih0 _ _ _ _ _ _ _ _ _)
  | (with_reducible exact ih1 _ _ _ _ _ _ _)
  | (with_reducible exact ih2 _ _ _ _ _ _ _ _ _)
  | (with_reducible exact ih3 _ _ _ _ _ _ _ _ _ _)
  | (with_reducible exact ih4 _ _ _ _ _ _ _ _ _ _)
  | (with_reducible exact ih5 _ _ _ _ _ _ _ _ _ _ _)
  | (with_reducible exact ih6 _ _ _ _ _ _ _ _ _ _)
  | (with_reducible exact ih7 _ _ _ _ _ _ _ _ _)
  | (with_reducible exact ih8 _ _ _ _ _ _ _ _ _ _)
  | (with_reducible exact kimberlitelaw01_alive.mono _)
  | (with_reducible exact span_Depth.mono _ _)
  | (with_reducible exact LeO.refl _)
  | (with_reducible exact LeO.none _)
  | (with_reducible refine LeO.ite ?_ ?_)
  | (with_reducible refine LeO.bind ?_ (fun _ => ?_))
  | exact ih0 _ _ _ _ _ _ _ _ _
  | exact ih1 _ _ _ _ _ _ _
  | exact ih2 _ _ _ _ _ _ _ _ _
  | exact ih3 _ _ _ _ _ _ _ _ _ _
  | exact ih4 _ _ _ _ _ _ _ _ _ _
  | exact ih5 _ _ _ _ _ _ _ _ _ _ _
  | exact ih6 _ _ _ _ _ _ _ _ _ _
  | exact ih7 _ _ _ _ _ _ _ _ _
  | exact ih8 _ _ _ _ _ _ _ _ _ _
  | exact kimberlitelaw01_alive.mono _
  | exact span_Depth.mono _ _
  | exact LeO.none _
  | refine LeO.ite ?_ ?_
  | refine LeO.bind ?_ (fun _ => ?_)
set_option maxHeartbeats 8000000 in
set_option maxRecDepth 100000 in
theorem kimberlitelaw01_SpanLaid.calls (k : Nat) (A0 : Option Addr) (c0 : Nat) (l0 : List (S32)) (a1 : Int) (r : Bool) (w : World) (hr0 : Kd.C k32 w A0 l0.length l0) (hc0 : l0.length ≤ c0) (h : kimberlitelaw01_SpanLaid.f k l0 a1 = some r) :
 Calls Try.prog 9 #[.slice A0 l0.length c0, .int .i64 a1] w fun e w' => e = .returned (.bool r) ∧ Below w.heap.size w w' := by
 have HR0 := Aside0.mk hr0
 have HC0 := Aside0.mk hc0
 clear hr0 hc0
 have HB := Aside0.mk (Below.refl w.heap.size w)
 have H : (if (l0.length : Int) > 128 then ((kimberlitelaw01_alive.f k).bind fun t523 => (some t523)) else ((span_Trays.f l0).bind fun bt524 => ((span_Depth.f k l0).bind fun bt529 => (if bt524.2.2 = 0 then (kimberlitelaw01_SpanLaid.j0 k l0 a1 bt524.1 bt524.2.1 bt524.2.2 bt529.1 bt529.2.1 bt529.2.2 (bt529.2.2 != 0)) else (kimberlitelaw01_SpanLaid.j0 k l0 a1 bt524.1 bt524.2.1 bt524.2.2 bt529.1 bt529.2.1 bt529.2.2 true))))) = some r := h
 clear h
 by_cases c3 : (l0.length : Int) > 128
 · rw [if_pos c3] at H
   have c3b0 : decide (128 < (l0.length : Int)) = true := decide_eq_true c3
   have c3b1 : decide (128 < l0.length) = true := decide_eq_true (by omega)
   clear c3
   replace H := Option.bind_eq_some_iff.mp H
   obtain ⟨t523, A40, H⟩ := H
   replace H : (some t523) = some r := H
   have A4 := Aside0.mk A40
   clear A40
   obtain rfl := Option.some.inj H
   go_enter Try.func9, Try.ntmps9
   go_wp2_with (first | (go_at_call 16; (with_reducible refine (kimberlitelaw01_alive.calls k  t523 _ A4.out).mono ?_); rintro e w5 ⟨rfl, hb⟩; have n0_ := Aside0.mk (below_step (by repeat (first | (with_reducible first | exact HB.out | apply below_alloc | apply pw_below_drewN | apply below_drew1) | exact HB.out)) hb); clear HB; have HB := n0_; clear n0_; (try clear hb); (try clear hb2); (try clear hk); (try clear hi)))
   repeat (go_quiet (first | (go_at_call 16; (with_reducible refine (kimberlitelaw01_alive.calls k  t523 _ A4.out).mono ?_); rintro e w5 ⟨rfl, hb⟩; have n0_ := Aside0.mk (below_step (by repeat (first | (with_reducible first | exact HB.out | apply below_alloc | apply pw_below_drewN | apply below_drew1) | exact HB.out)) hb); clear HB; have HB := n0_; clear n0_; (try clear hb); (try clear hb2); (try clear hk); (try clear hi))); try go_wp2_with (first | (go_at_call 16; (with_reducible refine (kimberlitelaw01_alive.calls k  t523 _ A4.out).mono ?_); rintro e w5 ⟨rfl, hb⟩; have n0_ := Aside0.mk (below_step (by repeat (first | (with_reducible first | exact HB.out | apply below_alloc | apply pw_below_drewN | apply below_drew1) | exact HB.out)) hb); clear HB; have HB := n0_; clear n0_; (try clear hb); (try clear hb2); (try clear hk); (try clear hi))))
   go_ret
   exact ⟨by first | rfl | (simp [errW_none, errW_some] <;> rfl) | (simp [*, errW_none, errW_some] <;> rfl), by repeat (first | (with_reducible first | exact HB.out | apply below_alloc | apply pw_below_drewN | apply below_drew1) | exact HB.out)⟩
 · rw [if_neg c3] at H
   have c3b0 : decide (128 < (l0.length : Int)) = false := decide_eq_false c3
   have c3b1 : decide (128 < l0.length) = false := decide_eq_false (by omega)
   clear c3
   replace H := Option.bind_eq_some_iff.mp H
   obtain ⟨⟨t524, t525, t526⟩, A60, H⟩ := H
   replace H : ((span_Depth.f k l0).bind fun bt529 => (if t526 = 0 then (kimberlitelaw01_SpanLaid.j0 k l0 a1 t524 t525 t526 bt529.1 bt529.2.1 bt529.2.2 (bt529.2.2 != 0)) else (kimberlitelaw01_SpanLaid.j0 k l0 a1 t524 t525 t526 bt529.1 bt529.2.1 bt529.2.2 true))) = some r := H
   have A6 := Aside0.mk A60
   clear A60
   replace H := Option.bind_eq_some_iff.mp H
   obtain ⟨⟨t529, t530, t531⟩, A70, H⟩ := H
   replace H : (if t526 = 0 then (kimberlitelaw01_SpanLaid.j0 k l0 a1 t524 t525 t526 t529 t530 t531 (t531 != 0)) else (kimberlitelaw01_SpanLaid.j0 k l0 a1 t524 t525 t526 t529 t530 t531 true)) = some r := H
   have A7 := Aside0.mk A70
   clear A70
   have HC8 := Aside0.mk H
   clear H
   go_enter Try.func9, Try.ntmps9
   go_upto_region 5 with (first | (go_at_call 45; (with_reducible refine (span_Trays.calls _ _ l0 t524 t525 t526 _ ?side1 ?side2 A6.out).mono ?_); (case side1 => repeat (first | exact HR0.out | (with_reducible refine Kd.C_alloc ?_ _) | (with_reducible refine Kd.C_drewN ?_ _) | (with_reducible refine Kd.C_drew ?_))); (case side2 => exact HC0.out); rintro e w9 ⟨v527, rfl, ho0, hb⟩; have n0_ := Aside0.mk (Kd.R_lower ho0 (below_size (by repeat (first | (with_reducible first | exact HB.out | apply below_alloc | apply pw_below_drewN | apply below_drew1) | exact HB.out)))); have n1_ := Aside0.mk (below_step (by repeat (first | (with_reducible first | exact HB.out | apply below_alloc | apply pw_below_drewN | apply below_drew1) | exact HB.out)) hb); clear HB; have HO528 := n0_; have HB := n1_; clear n0_ n1_; (try clear hb); (try clear hb2); (try clear hk); (try clear hi); (try clear ho0)) | (go_at_call 46; (with_reducible refine (span_Depth.calls k _ _ l0 t529 t530 t531 _ ?side1 ?side2 A7.out).mono ?_); (case side1 => repeat (first | exact (Kd.C_below HR0.out HB.out) | (with_reducible refine Kd.C_alloc ?_ _) | (with_reducible refine Kd.C_drewN ?_ _) | (with_reducible refine Kd.C_drew ?_))); (case side2 => exact HC0.out); rintro e w10 ⟨rfl, hb⟩; have n0_ := Aside0.mk (Kd.R_below (by (with_reducible repeat (first | apply Kd.R_alloc | apply Kd.R_drewN | apply Kd.R_drew)); exact HO528.out) hb); have n1_ := Aside0.mk (below_step (by repeat (first | (with_reducible first | exact HB.out | apply below_alloc | apply pw_below_drewN | apply below_drew1) | exact HB.out)) hb); clear HO528; clear HB; have HO528 := n0_; have HB := n1_; clear n0_ n1_; (try clear hb); (try clear hb2); (try clear hk); (try clear hi)))
   repeat (go_quiet (first | (go_at_call 45; (with_reducible refine (span_Trays.calls _ _ l0 t524 t525 t526 _ ?side1 ?side2 A6.out).mono ?_); (case side1 => repeat (first | exact HR0.out | (with_reducible refine Kd.C_alloc ?_ _) | (with_reducible refine Kd.C_drewN ?_ _) | (with_reducible refine Kd.C_drew ?_))); (case side2 => exact HC0.out); rintro e w9 ⟨v527, rfl, ho0, hb⟩; have n0_ := Aside0.mk (Kd.R_lower ho0 (below_size (by repeat (first | (with_reducible first | exact HB.out | apply below_alloc | apply pw_below_drewN | apply below_drew1) | exact HB.out)))); have n1_ := Aside0.mk (below_step (by repeat (first | (with_reducible first | exact HB.out | apply below_alloc | apply pw_below_drewN | apply below_drew1) | exact HB.out)) hb); clear HB; have HO528 := n0_; have HB := n1_; clear n0_ n1_; (try clear hb); (try clear hb2); (try clear hk); (try clear hi); (try clear ho0)) | (go_at_call 46; (with_reducible refine (span_Depth.calls k _ _ l0 t529 t530 t531 _ ?side1 ?side2 A7.out).mono ?_); (case side1 => repeat (first | exact (Kd.C_below HR0.out HB.out) | (with_reducible refine Kd.C_alloc ?_ _) | (with_reducible refine Kd.C_drewN ?_ _) | (with_reducible refine Kd.C_drew ?_))); (case side2 => exact HC0.out); rintro e w10 ⟨rfl, hb⟩; have n0_ := Aside0.mk (Kd.R_below (by (with_reducible repeat (first | apply Kd.R_alloc | apply Kd.R_drewN | apply Kd.R_drew)); exact HO528.out) hb); have n1_ := Aside0.mk (below_step (by repeat (first | (with_reducible first | exact HB.out | apply below_alloc | apply pw_below_drewN | apply below_drew1) | exact HB.out)) hb); clear HO528; clear HB; have HO528 := n0_; have HB := n1_; clear n0_ n1_; (try clear hb); (try clear hb2); (try clear hk); (try clear hi))); go_upto_region 5 with (first | (go_at_call 45; (with_reducible refine (span_Trays.calls _ _ l0 t524 t525 t526 _ ?side1 ?side2 A6.out).mono ?_); (case side1 => repeat (first | exact HR0.out | (with_reducible refine Kd.C_alloc ?_ _) | (with_reducible refine Kd.C_drewN ?_ _) | (with_reducible refine Kd.C_drew ?_))); (case side2 => exact HC0.out); rintro e w9 ⟨v527, rfl, ho0, hb⟩; have n0_ := Aside0.mk (Kd.R_lower ho0 (below_size (by repeat (first | (with_reducible first | exact HB.out | apply below_alloc | apply pw_below_drewN | apply below_drew1) | exact HB.out)))); have n1_ := Aside0.mk (below_step (by repeat (first | (with_reducible first | exact HB.out | apply below_alloc | apply pw_below_drewN | apply below_drew1) | exact HB.out)) hb); clear HB; have HO528 := n0_; have HB := n1_; clear n0_ n1_; (try clear hb); (try clear hb2); (try clear hk); (try clear hi); (try clear ho0)) | (go_at_call 46; (with_reducible refine (span_Depth.calls k _ _ l0 t529 t530 t531 _ ?side1 ?side2 A7.out).mono ?_); (case side1 => repeat (first | exact (Kd.C_below HR0.out HB.out) | (with_reducible refine Kd.C_alloc ?_ _) | (with_reducible refine Kd.C_drewN ?_ _) | (with_reducible refine Kd.C_drew ?_))); (case side2 => exact HC0.out); rintro e w10 ⟨rfl, hb⟩; have n0_ := Aside0.mk (Kd.R_below (by (with_reducible repeat (first | apply Kd.R_alloc | apply Kd.R_drewN | apply Kd.R_drew)); exact HO528.out) hb); have n1_ := Aside0.mk (below_step (by repeat (first | (with_reducible first | exact HB.out | apply below_alloc | apply pw_below_drewN | apply below_drew1) | exact HB.out)) hb); clear HO528; clear HB; have HO528 := n0_; have HB := n1_; clear n0_ n1_; (try clear hb); (try clear hb2); (try clear hk); (try clear hi))))
   (try simp only [Act.put, List.setIfInBounds_toArray, List.set_cons_zero, List.set_cons_succ])
   go_cut [36] (fun v36 wc => ∃ (kq : Nat) (x36_7 : Bool), v36 = .bool x36_7 ∧ Aside0 (kimberlitelaw01_SpanLaid.j0 kq l0 a1 t524 t525 t526 t529 t530 t531 x36_7 = some r) ∧ Aside0 (kq ≤ k) ∧ Aside0 (Kd.R (Kd.int .i64) 3 wc w.heap.size (fun _ => True) v527 t524) ∧ Aside0 (Below w.heap.size w wc))
   case first =>
    as_aux_lemma =>
    have H := HC8.out
    clear HC8
    by_cases c11 : t526 = 0
    · rw [if_pos c11] at H
      have c11b0 : (t526 == 0) = true := beq_iff_eq.mpr c11
      have c11b1 : (t526 != 0) = false := bne_eq_false_iff_eq.mpr c11
      clear c11
      (first | rw [c11b0] | (simp only [i64_w, i32_w]; rw [c11b0]) | skip)
      have H' := Aside0.mk H
      clear H
      go_wp2
      repeat (go_quiet (fail); try go_wp2)
      go_meet
      case rel => exact ⟨_, ((t531 != 0)), (by first | rfl | (simp; done) | (simp [*]; done)), H', ⟨by first | omega | exact Nat.le_refl _⟩, ⟨by (with_reducible repeat (first | apply Kd.R_alloc | apply Kd.R_drewN | apply Kd.R_drew)); exact HO528.out⟩, ⟨by repeat (first | (with_reducible first | exact HB.out | apply below_alloc | apply pw_below_drewN | apply below_drew1) | exact HB.out)⟩⟩
    · rw [if_neg c11] at H
      have c11b0 : (t526 == 0) = false := beq_eq_false_iff_ne.mpr c11
      have c11b1 : (t526 != 0) = true := bne_iff_ne.mpr c11
      (first | rw [c11b0] | (simp only [i64_w, i32_w]; rw [c11b0]) | skip)
      have H' := Aside0.mk H
      clear H
      go_wp2
      repeat (go_quiet (fail); try go_wp2)
      go_meet
      case rel => exact ⟨_, (true), (by first | rfl | (simp; done) | (simp [*]; done)), H', ⟨by first | omega | exact Nat.le_refl _⟩, ⟨by (with_reducible repeat (first | apply Kd.R_alloc | apply Kd.R_drewN | apply Kd.R_drew)); exact HO528.out⟩, ⟨by repeat (first | (with_reducible first | exact HB.out | apply below_alloc | apply pw_below_drewN | apply below_drew1) | exact HB.out)⟩⟩
   case rest =>
    as_aux_lemma =>
    clear HC8
    try clear c1
    try clear p2
    try clear c3
    try clear c3b0
    try clear c3b1
    try clear c9
    try clear c11
    try clear c11b0
    try clear c11b1
    obtain ⟨kq, x36_7, rfl, HA, HJ7, HO_5, HB⟩ := hcut
    cases kq with
    | zero => exact absurd HA.out (by simp [kimberlitelaw01_SpanLaid.j0])
    | succ kj7 =>
     have H := HA.out
     clear HA
     simp only [kimberlitelaw01_SpanLaid.j0] at H
     by_cases c12 : x36_7 = true
     · subst c12
       have H1 : (if t526 = t531 then (if (t524.length : Int) = 0 then (if t525 = 0 then (if t529 = 0 then (if t530 = 0 then ((kimberlitelaw01_alive.f kj7).bind fun t532 => (some t532)) else (some false)) else (some false)) else (some false)) else (some false)) else (some false)) = some r := by rw [if_pos rfl] at H; exact H
       clear H
       have H := H1
       clear H1
       by_cases c13 : t526 = t531
       · rw [if_pos c13] at H
         have c13b0 : (t526 == t531) = true := beq_iff_eq.mpr c13
         have c13b1 : (t526 != t531) = false := bne_eq_false_iff_eq.mpr c13
         clear c13
         by_cases c14 : (t524.length : Int) = 0
         · rw [if_pos c14] at H
           have c14b0 : ((t524.length : Int) == 0) = true := beq_iff_eq.mpr c14
           have c14b1 : ((t524.length : Int) != 0) = false := bne_eq_false_iff_eq.mpr c14
           clear c14
           by_cases c15 : t525 = 0
           · rw [if_pos c15] at H
             have c15b0 : (t525 == 0) = true := beq_iff_eq.mpr c15
             have c15b1 : (t525 != 0) = false := bne_eq_false_iff_eq.mpr c15
             clear c15
             by_cases c16 : t529 = 0
             · rw [if_pos c16] at H
               have c16b0 : (t529 == 0) = true := beq_iff_eq.mpr c16
               have c16b1 : (t529 != 0) = false := bne_eq_false_iff_eq.mpr c16
               clear c16
               by_cases c17 : t530 = 0
               · rw [if_pos c17] at H
                 have c17b0 : (t530 == 0) = true := beq_iff_eq.mpr c17
                 have c17b1 : (t530 != 0) = false := bne_eq_false_iff_eq.mpr c17
                 clear c17
                 replace H := Option.bind_eq_some_iff.mp H
                 obtain ⟨t532, A180, H⟩ := H
                 replace H : (some t532) = some r := H
                 have A18 := Aside0.mk A180
                 clear A180
                 obtain rfl := Option.some.inj H
                 obtain ⟨Ao19, co19, eo19⟩ := Kd.R_slice HO_5.out
                 subst eo19
                 go_wp2_with (first | (go_at_call 16; (with_reducible refine (kimberlitelaw01_alive.calls kj7  t532 _ A18.out).mono ?_); rintro e w20 ⟨rfl, hb⟩; have n0_ := Aside0.mk (Kd.R_below (by (with_reducible repeat (first | apply Kd.R_alloc | apply Kd.R_drewN | apply Kd.R_drew)); exact HO_5.out) hb); have n1_ := Aside0.mk (below_step (by repeat (first | (with_reducible first | exact HB.out | apply below_alloc | apply pw_below_drewN | apply below_drew1) | exact HB.out)) hb); clear HO_5; clear HB; have HO_5 := n0_; have HB := n1_; clear n0_ n1_; (try clear hb); (try clear hb2); (try clear hk); (try clear hi)))
                 repeat (go_quiet (first | (go_at_call 16; (with_reducible refine (kimberlitelaw01_alive.calls kj7  t532 _ A18.out).mono ?_); rintro e w20 ⟨rfl, hb⟩; have n0_ := Aside0.mk (Kd.R_below (by (with_reducible repeat (first | apply Kd.R_alloc | apply Kd.R_drewN | apply Kd.R_drew)); exact HO_5.out) hb); have n1_ := Aside0.mk (below_step (by repeat (first | (with_reducible first | exact HB.out | apply below_alloc | apply pw_below_drewN | apply below_drew1) | exact HB.out)) hb); clear HO_5; clear HB; have HO_5 := n0_; have HB := n1_; clear n0_ n1_; (try clear hb); (try clear hb2); (try clear hk); (try clear hi))); try go_wp2_with (first | (go_at_call 16; (with_reducible refine (kimberlitelaw01_alive.calls kj7  t532 _ A18.out).mono ?_); rintro e w20 ⟨rfl, hb⟩; have n0_ := Aside0.mk (Kd.R_below (by (with_reducible repeat (first | apply Kd.R_alloc | apply Kd.R_drewN | apply Kd.R_drew)); exact HO_5.out) hb); have n1_ := Aside0.mk (below_step (by repeat (first | (with_reducible first | exact HB.out | apply below_alloc | apply pw_below_drewN | apply below_drew1) | exact HB.out)) hb); clear HO_5; clear HB; have HO_5 := n0_; have HB := n1_; clear n0_ n1_; (try clear hb); (try clear hb2); (try clear hk); (try clear hi))))
                 go_ret
                 exact ⟨by first | rfl | (simp [errW_none, errW_some] <;> rfl) | (simp [*, errW_none, errW_some] <;> rfl), by repeat (first | (with_reducible first | exact HB.out | apply below_alloc | apply pw_below_drewN | apply below_drew1) | exact HB.out)⟩
               · rw [if_neg c17] at H
                 have c17b0 : (t530 == 0) = false := beq_eq_false_iff_ne.mpr c17
                 have c17b1 : (t530 != 0) = true := bne_iff_ne.mpr c17
                 obtain rfl := Option.some.inj H
                 obtain ⟨Ao21, co21, eo21⟩ := Kd.R_slice HO_5.out
                 subst eo21
                 go_wp2
                 repeat (go_quiet (fail); try go_wp2)
                 go_ret
                 exact ⟨by first | rfl | (simp [errW_none, errW_some] <;> rfl) | (simp [*, errW_none, errW_some] <;> rfl), by repeat (first | (with_reducible first | exact HB.out | apply below_alloc | apply pw_below_drewN | apply below_drew1) | exact HB.out)⟩
             · rw [if_neg c16] at H
               have c16b0 : (t529 == 0) = false := beq_eq_false_iff_ne.mpr c16
               have c16b1 : (t529 != 0) = true := bne_iff_ne.mpr c16
               obtain rfl := Option.some.inj H
               obtain ⟨Ao22, co22, eo22⟩ := Kd.R_slice HO_5.out
               subst eo22
               go_wp2
               repeat (go_quiet (fail); try go_wp2)
               go_ret
               exact ⟨by first | rfl | (simp [errW_none, errW_some] <;> rfl) | (simp [*, errW_none, errW_some] <;> rfl), by repeat (first | (with_reducible first | exact HB.out | apply below_alloc | apply pw_below_drewN | apply below_drew1) | exact HB.out)⟩
           · rw [if_neg c15] at H
             have c15b0 : (t525 == 0) = false := beq_eq_false_iff_ne.mpr c15
             have c15b1 : (t525 != 0) = true := bne_iff_ne.mpr c15
             obtain rfl := Option.some.inj H
             obtain ⟨Ao23, co23, eo23⟩ := Kd.R_slice HO_5.out
             subst eo23
             go_wp2
             repeat (go_quiet (fail); try go_wp2)
             go_ret
             exact ⟨by first | rfl | (simp [errW_none, errW_some] <;> rfl) | (simp [*, errW_none, errW_some] <;> rfl), by repeat (first | (with_reducible first | exact HB.out | apply below_alloc | apply pw_below_drewN | apply below_drew1) | exact HB.out)⟩
         · rw [if_neg c14] at H
           have c14b0 : ((t524.length : Int) == 0) = false := beq_eq_false_iff_ne.mpr c14
           have c14b1 : ((t524.length : Int) != 0) = true := bne_iff_ne.mpr c14
           have c14b2 : ¬ (t524 = []) := fun h_ => c14 (by rw [h_]; rfl)
           obtain rfl := Option.some.inj H
           obtain ⟨Ao24, co24, eo24⟩ := Kd.R_slice HO_5.out
           subst eo24
           go_wp2
           repeat (go_quiet (fail); try go_wp2)
           go_ret
           exact ⟨by first | rfl | (simp [errW_none, errW_some] <;> rfl) | (simp [*, errW_none, errW_some] <;> rfl), by repeat (first | (with_reducible first | exact HB.out | apply below_alloc | apply pw_below_drewN | apply below_drew1) | exact HB.out)⟩
       · rw [if_neg c13] at H
         have c13b0 : (t526 == t531) = false := beq_eq_false_iff_ne.mpr c13
         have c13b1 : (t526 != t531) = true := bne_iff_ne.mpr c13
         obtain rfl := Option.some.inj H
         go_wp2
         repeat (go_quiet (fail); try go_wp2)
         go_ret
         exact ⟨by first | rfl | (simp [errW_none, errW_some] <;> rfl) | (simp [*, errW_none, errW_some] <;> rfl), by repeat (first | (with_reducible first | exact HB.out | apply below_alloc | apply pw_below_drewN | apply below_drew1) | exact HB.out)⟩
     · replace c12 := Bool.eq_false_iff.mpr c12
       subst c12
       have H1 : (if (t524.length : Int) = (l0.length : Int) then (kimberlitelaw01_SpanLaid.j1 kj7 l0 a1 t524 t525 t529 t530 (t525 != t529)) else (kimberlitelaw01_SpanLaid.j1 kj7 l0 a1 t524 t525 t529 t530 true)) = some r := by rw [if_neg (show ¬ (false = true) by decide)] at H; exact H
       clear H
       have H := H1
       clear H1
       have HC25 := Aside0.mk H
       clear H
       go_upto_region 7 with (fail)
       repeat (go_quiet (fail); go_upto_region 7 with (fail))
       go_cut [69] (fun v69 wc => ∃ (kq : Nat) (x69_24 : Bool), v69 = .bool x69_24 ∧ Aside0 (kimberlitelaw01_SpanLaid.j1 kq l0 a1 t524 t525 t529 t530 x69_24 = some r) ∧ Aside0 (kq ≤ kj7) ∧ Aside0 (Kd.R (Kd.int .i64) 3 wc w.heap.size (fun _ => True) v527 t524) ∧ Aside0 (Below w.heap.size w wc))
       case first =>
        as_aux_lemma =>
        have H := HC25.out
        clear HC25
        by_cases c26 : (t524.length : Int) = (l0.length : Int)
        · rw [if_pos c26] at H
          have c26b0 : ((t524.length : Int) == (l0.length : Int)) = true := beq_iff_eq.mpr c26
          have c26b1 : ((t524.length : Int) != (l0.length : Int)) = false := bne_eq_false_iff_eq.mpr c26
          have c26b2 : (t524.length == l0.length) = true := by first | simpa using c26 | (simp at c26 ⊢; omega)
          clear c26
          (first | rw [c26b0] | (simp only [i64_w, i32_w]; rw [c26b0]) | skip)
          have H' := Aside0.mk H
          clear H
          obtain ⟨Ao27, co27, eo27⟩ := Kd.R_slice HO_5.out
          subst eo27
          go_wp2
          repeat (go_quiet (fail); try go_wp2)
          go_meet
          case rel => exact ⟨_, ((t525 != t529)), (by first | rfl | (simp; done) | (simp [*]; done)), H', ⟨by have := HJ7.out; first | omega | exact Nat.le_refl _⟩, ⟨by (with_reducible repeat (first | apply Kd.R_alloc | apply Kd.R_drewN | apply Kd.R_drew)); exact HO_5.out⟩, ⟨by repeat (first | (with_reducible first | exact HB.out | apply below_alloc | apply pw_below_drewN | apply below_drew1) | exact HB.out)⟩⟩
        · rw [if_neg c26] at H
          have c26b0 : ((t524.length : Int) == (l0.length : Int)) = false := beq_eq_false_iff_ne.mpr c26
          have c26b1 : ((t524.length : Int) != (l0.length : Int)) = true := bne_iff_ne.mpr c26
          have c26b2 : (t524.length == l0.length) = false := by first | simpa using c26 | (simp at c26 ⊢; omega)
          (first | rw [c26b0] | (simp only [i64_w, i32_w]; rw [c26b0]) | skip)
          have H' := Aside0.mk H
          clear H
          obtain ⟨Ao28, co28, eo28⟩ := Kd.R_slice HO_5.out
          subst eo28
          go_wp2
          repeat (go_quiet (fail); try go_wp2)
          go_meet
          case rel => exact ⟨_, (true), (by first | rfl | (simp; done) | (simp [*]; done)), H', ⟨by have := HJ7.out; first | omega | exact Nat.le_refl _⟩, ⟨by (with_reducible repeat (first | apply Kd.R_alloc | apply Kd.R_drewN | apply Kd.R_drew)); exact HO_5.out⟩, ⟨by repeat (first | (with_reducible first | exact HB.out | apply below_alloc | apply pw_below_drewN | apply below_drew1) | exact HB.out)⟩⟩
       case rest =>
        as_aux_lemma =>
        clear HC25
        try clear c1
        try clear c2
        try clear p2
        try clear c3
        try clear c3b0
        try clear c3b1
        try clear c9
        try clear c11
        try clear c11b0
        try clear c11b1
        try clear c12
        try clear c13
        try clear c13b0
        try clear c13b1
        try clear c14
        try clear c14b0
        try clear c14b1
        try clear c14b2
        try clear c15
        try clear c15b0
        try clear c15b1
        try clear c16
        try clear c16b0
        try clear c16b1
        try clear c17
        try clear c17b0
        try clear c17b1
        try clear c26
        try clear c26b0
        try clear c26b1
        try clear c26b2
        try clear p2
        obtain ⟨kq, x69_24, rfl, HA, HJ24, HO_5, HB⟩ := hcut
        cases kq with
        | zero => exact absurd HA.out (by simp [kimberlitelaw01_SpanLaid.j1])
        | succ kj24 =>
         have H := HA.out
         clear HA
         simp only [kimberlitelaw01_SpanLaid.j1] at H
         by_cases c29 : x69_24 = true
         · subst c29
           have H1 : (some false) = some r := by rw [if_pos rfl] at H; exact H
           clear H
           have H := H1
           clear H1
           obtain rfl := Option.some.inj H
           go_wp2
           repeat (go_quiet (fail); try go_wp2)
           go_ret
           exact ⟨by first | rfl | (simp [errW_none, errW_some] <;> rfl) | (simp [*, errW_none, errW_some] <;> rfl), by repeat (first | (with_reducible first | exact HB.out | apply below_alloc | apply pw_below_drewN | apply below_drew1) | exact HB.out)⟩
         · replace c29 := Bool.eq_false_iff.mpr c29
           subst c29
           have H1 : (kimberlitelaw01_SpanLaid.l0 kj24 l0 a1 t524 t525 t529 t530 0 0 0) = some r := by rw [if_neg (show ¬ (false = true) by decide)] at H; exact H
           clear H
           have H := H1
           clear H1
           have H' := Aside0.mk H
           clear H
           go_wp2
           repeat (go_quiet (fail); try go_wp2)
           go_loopg [11, 12, 13] kj24 (fun kq v11 v12 v13 w' => ∃ (x11_3 : Int) (x12_3 : Int) (x13_3 : Int), v11 = .int .i64 x11_3 ∧ v12 = .int .i64 x12_3 ∧ v13 = .int .i64 x13_3 ∧ Aside0 (kimberlitelaw01_SpanLaid.l0 kq l0 a1 t524 t525 t529 t530 x11_3 x12_3 x13_3 = some r) ∧ Aside0 (kq ≤ kj24) ∧ Aside0 (Kd.R (Kd.int .i64) 3 w' w.heap.size (fun _ => True) v527 t524) ∧ Aside0 (Below w.heap.size w w'))
           case atStart => exact ⟨(0), (0), (0), (by first | rfl | (simp; done) | (simp [*]; done)), (by first | rfl | (simp; done) | (simp [*]; done)), (by first | rfl | (simp; done) | (simp [*]; done)), H', ⟨Nat.le_refl _⟩, ⟨by (with_reducible repeat (first | apply Kd.R_alloc | apply Kd.R_drewN | apply Kd.R_drew)); exact HO_5.out⟩, ⟨by repeat (first | (with_reducible first | exact HB.out | apply below_alloc | apply pw_below_drewN | apply below_drew1) | exact HB.out)⟩⟩
           case round =>
            as_aux_lemma =>
            clear H'
            try clear c1
            try clear c2
            try clear p2
            try clear c3
            try clear c3b0
            try clear c3b1
            try clear c9
            try clear c11
            try clear c11b0
            try clear c11b1
            try clear c12
            try clear c13
            try clear c13b0
            try clear c13b1
            try clear c14
            try clear c14b0
            try clear c14b1
            try clear c14b2
            try clear c15
            try clear c15b0
            try clear c15b1
            try clear c16
            try clear c16b0
            try clear c16b1
            try clear c17
            try clear c17b0
            try clear c17b1
            try clear c26
            try clear c26b0
            try clear c26b1
            try clear c26b2
            try clear c29
            try clear p2
            obtain ⟨x11_3, x12_3, x13_3, rfl, rfl, rfl, HA, HK3, HO_5, HB⟩ := hrel
            cases gk with
            | zero => exact absurd HA.out (by simp [kimberlitelaw01_SpanLaid.l0])
            | succ k3 =>
             have H := HA.out
             clear HA
             simp only [kimberlitelaw01_SpanLaid.l0] at H
             by_cases c30 : x13_3 < (l0.length : Int)
             · rw [if_pos c30] at H
               have c30b0 : decide (x13_3 < (l0.length : Int)) = true := decide_eq_true c30
               clear c30
               have HC31 := Aside0.mk H
               clear H
               go_upto_region 13 with (fail)
               repeat (go_quiet (fail); go_upto_region 13 with (fail))
               go_cut [88] (fun v88 wc => ∃ (kq : Nat) (x88_30 : Bool), v88 = .bool x88_30 ∧ Aside0 (kimberlitelaw01_SpanLaid.j3 kq l0 a1 t524 t525 t529 t530 x11_3 x12_3 x13_3 x88_30 = some r) ∧ Aside0 (kq ≤ k3) ∧ Aside0 (Kd.R (Kd.int .i64) 3 wc w.heap.size (fun _ => True) v527 t524) ∧ Aside0 (Below w.heap.size w wc))
               case first =>
                as_aux_lemma =>
                have H := HC31.out
                clear HC31
                by_cases c32 : 0 ≤ x13_3
                · rw [if_pos c32] at H
                  have c32b0 : decide (0 ≤ x13_3) = true := decide_eq_true c32
                  clear c32
                  (first | rw [c32b0] | (simp only [i64_w, i32_w]; rw [c32b0]) | skip)
                  by_cases c33 : x13_3 < (t524.length : Int)
                  · rw [if_pos c33] at H
                    have c33b0 : decide (x13_3 < (t524.length : Int)) = true := decide_eq_true c33
                    clear c33
                    by_cases c34 : (rd t524 x13_3) < 0
                    · rw [if_pos c34] at H
                      have c34b0 : decide ((rd t524 x13_3) < 0) = true := decide_eq_true c34
                      clear c34
                      have H' := Aside0.mk H
                      clear H
                      obtain ⟨Ao35, co35, eo35⟩ := Kd.R_slice HO_5.out
                      subst eo35
                      have p533 : 0 ≤ (x13_3 : Int) := of_decide_eq_true (by first | (with_reducible assumption) | assumption)
                      have q533 : x13_3 < (t524.length : Int) := of_decide_eq_true (by first | (with_reducible assumption) | assumption)
                      obtain ⟨ad533, e533, hx533_0⟩ := Kd.at_int (Kd.R_reads' HO_5.out).2.2 x13_3 p533 q533
                      cases e533
                      replace p533 := eq_true p533
                      replace q533 := eq_true q533
                      go_wp2
                      repeat (go_quiet (fail); try go_wp2)
                      go_meet
                      case rel => exact ⟨_, (true), (by first | rfl | (simp; done) | (simp [*]; done)), H', ⟨by have := HJ7.out; have := HJ24.out; have := HK3.out; first | omega | exact Nat.le_refl _⟩, ⟨by (with_reducible repeat (first | apply Kd.R_alloc | apply Kd.R_drewN | apply Kd.R_drew)); exact HO_5.out⟩, ⟨by repeat (first | (with_reducible first | exact HB.out | apply below_alloc | apply pw_below_drewN | apply below_drew1) | exact HB.out)⟩⟩
                    · rw [if_neg c34] at H
                      have c34b0 : decide ((rd t524 x13_3) < 0) = false := decide_eq_false c34
                      clear c34
                      have H' := Aside0.mk H
                      clear H
                      obtain ⟨Ao36, co36, eo36⟩ := Kd.R_slice HO_5.out
                      subst eo36
                      have p533 : 0 ≤ (x13_3 : Int) := of_decide_eq_true (by first | (with_reducible assumption) | assumption)
                      have q533 : x13_3 < (t524.length : Int) := of_decide_eq_true (by first | (with_reducible assumption) | assumption)
                      obtain ⟨ad533, e533, hx533_0⟩ := Kd.at_int (Kd.R_reads' HO_5.out).2.2 x13_3 p533 q533
                      cases e533
                      replace p533 := eq_true p533
                      replace q533 := eq_true q533
                      have p534 : 0 ≤ (x13_3 : Int) := of_decide_eq_true (by first | (with_reducible assumption) | assumption)
                      have q534 : x13_3 < (t524.length : Int) := of_decide_eq_true (by first | (with_reducible assumption) | assumption)
                      obtain ⟨ad534, e534, hx534_0⟩ := Kd.at_int (Kd.R_reads' HO_5.out).2.2 x13_3 p534 q534
                      obtain rfl : ad533 = ad534 := (by injection e534)
                      replace p534 := eq_true p534
                      replace q534 := eq_true q534
                      go_wp2
                      repeat (go_quiet (fail); try go_wp2)
                      go_meet
                      case rel => exact ⟨_, (decide ((rd t524 x13_3) ≥ t525)), (by first | rfl | (simp; done) | (simp [*]; done)), H', ⟨by have := HJ7.out; have := HJ24.out; have := HK3.out; first | omega | exact Nat.le_refl _⟩, ⟨by (with_reducible repeat (first | apply Kd.R_alloc | apply Kd.R_drewN | apply Kd.R_drew)); exact HO_5.out⟩, ⟨by repeat (first | (with_reducible first | exact HB.out | apply below_alloc | apply pw_below_drewN | apply below_drew1) | exact HB.out)⟩⟩
                  · rw [if_neg c33] at H
                    exact absurd H (by simp)
                · rw [if_neg c32] at H
                  exact absurd H (by simp)
               case rest =>
                as_aux_lemma =>
                clear HC31
                try clear c1
                try clear c2
                try clear p2
                try clear c3
                try clear c3b0
                try clear c3b1
                try clear p5
                try clear q5
                try clear hx5
                try clear c9
                try clear c11
                try clear c11b0
                try clear c11b1
                try clear c12
                try clear c13
                try clear c13b0
                try clear c13b1
                try clear c14
                try clear c14b0
                try clear c14b1
                try clear c14b2
                try clear c15
                try clear c15b0
                try clear c15b1
                try clear c16
                try clear c16b0
                try clear c16b1
                try clear c17
                try clear c17b0
                try clear c17b1
                try clear c26
                try clear c26b0
                try clear c26b1
                try clear c26b2
                try clear c29
                try clear c30
                try clear c30b0
                try clear c32
                try clear c32b0
                try clear c33
                try clear c33b0
                try clear c34
                try clear c34b0
                try clear hx533_0
                try clear hx534_0
                try clear p2
                try clear p533
                try clear p534
                try clear q533
                try clear q534
                obtain ⟨kq, x88_30, rfl, HA, HJ30, HO_5, HB⟩ := hcut
                cases kq with
                | zero => exact absurd HA.out (by simp [kimberlitelaw01_SpanLaid.j3])
                | succ kj30 =>
                 have H := HA.out
                 clear HA
                 simp only [kimberlitelaw01_SpanLaid.j3] at H
                 by_cases c37 : x88_30 = true
                 · subst c37
                   have H1 : (some false) = some r := by rw [if_pos rfl] at H; exact H
                   clear H
                   have H := H1
                   clear H1
                   obtain rfl := Option.some.inj H
                   go_wp2
                   repeat (go_quiet (fail); try go_wp2)
                   go_ret
                   exact ⟨by first | rfl | (simp [errW_none, errW_some] <;> rfl) | (simp [*, errW_none, errW_some] <;> rfl), by repeat (first | (with_reducible first | exact HB.out | apply below_alloc | apply pw_below_drewN | apply below_drew1) | exact HB.out)⟩
                 · replace c37 := Bool.eq_false_iff.mpr c37
                   subst c37
                   have H1 : (kimberlitelaw01_SpanLaid.l1 kj30 l0 a1 t524 t525 t529 t530 x11_3 x12_3 x13_3 0) = some r := by rw [if_neg (show ¬ (false = true) by decide)] at H; exact H
                   clear H
                   have H := H1
                   clear H1
                   have H' := Aside0.mk H
                   clear H
                   go_wp2
                   repeat (go_quiet (fail); try go_wp2)
                   go_loopg [14] kj30 (fun kq v14 w' => ∃ (x14_5 : Int), v14 = .int .i64 x14_5 ∧ Aside0 (kimberlitelaw01_SpanLaid.l1 kq l0 a1 t524 t525 t529 t530 x11_3 x12_3 x13_3 x14_5 = some r) ∧ Aside0 (kq ≤ kj30) ∧ Aside0 (Kd.R (Kd.int .i64) 3 w' w.heap.size (fun _ => True) v527 t524) ∧ Aside0 (Below w.heap.size w w'))
                   case atStart => exact ⟨(0), (by first | rfl | (simp; done) | (simp [*]; done)), H', ⟨Nat.le_refl _⟩, ⟨by (with_reducible repeat (first | apply Kd.R_alloc | apply Kd.R_drewN | apply Kd.R_drew)); exact HO_5.out⟩, ⟨by repeat (first | (with_reducible first | exact HB.out | apply below_alloc | apply pw_below_drewN | apply below_drew1) | exact HB.out)⟩⟩
                   case round =>
                    as_aux_lemma =>
                    clear H'
                    try clear c1
                    try clear c2
                    try clear p2
                    try clear c3
                    try clear c3b0
                    try clear c3b1
                    try clear p5
                    try clear q5
                    try clear hx5
                    try clear c9
                    try clear c11
                    try clear c11b0
                    try clear c11b1
                    try clear c12
                    try clear c13
                    try clear c13b0
                    try clear c13b1
                    try clear c14
                    try clear c14b0
                    try clear c14b1
                    try clear c14b2
                    try clear c15
                    try clear c15b0
                    try clear c15b1
                    try clear c16
                    try clear c16b0
                    try clear c16b1
                    try clear c17
                    try clear c17b0
                    try clear c17b1
                    try clear c26
                    try clear c26b0
                    try clear c26b1
                    try clear c26b2
                    try clear c29
                    try clear c30
                    try clear c30b0
                    try clear c32
                    try clear c32b0
                    try clear c33
                    try clear c33b0
                    try clear c34
                    try clear c34b0
                    try clear c37
                    try clear hx533_0
                    try clear hx534_0
                    try clear p2
                    try clear p5
                    try clear p533
                    try clear p534
                    try clear q5
                    try clear q533
                    try clear q534
                    obtain ⟨x14_5, rfl, HA, HK5, HO_5, HB⟩ := hrel
                    cases gk with
                    | zero => exact absurd HA.out (by simp [kimberlitelaw01_SpanLaid.l1])
                    | succ k5 =>
                     have H := HA.out
                     clear HA
                     simp only [kimberlitelaw01_SpanLaid.l1] at H
                     by_cases c38 : x14_5 < x13_3
                     · rw [if_pos c38] at H
                       have c38b0 : decide (x14_5 < x13_3) = true := decide_eq_true c38
                       clear c38
                       have HC39 := Aside0.mk H
                       clear H
                       go_upto_region 18 with (fail)
                       repeat (go_quiet (fail); go_upto_region 18 with (fail))
                       go_cut [128] (fun v128 wc => ∃ (kq : Nat) (x128_38 : Bool), v128 = .bool x128_38 ∧ Aside0 (kimberlitelaw01_SpanLaid.j5 kq l0 a1 t524 t525 t529 t530 x11_3 x12_3 x13_3 x14_5 x128_38 = some r) ∧ Aside0 (kq ≤ k5) ∧ Aside0 (Kd.R (Kd.int .i64) 3 wc w.heap.size (fun _ => True) v527 t524) ∧ Aside0 (Below w.heap.size w wc))
                       case first =>
                        as_aux_lemma =>
                        have H := HC39.out
                        clear HC39
                        by_cases c40 : 0 ≤ x13_3
                        · rw [if_pos c40] at H
                          have c40b0 : decide (0 ≤ x13_3) = true := decide_eq_true c40
                          clear c40
                          (first | rw [c40b0] | (simp only [i64_w, i32_w]; rw [c40b0]) | skip)
                          by_cases c41 : x13_3 < (t524.length : Int)
                          · rw [if_pos c41] at H
                            have c41b0 : decide (x13_3 < (t524.length : Int)) = true := decide_eq_true c41
                            clear c41
                            by_cases c42 : 0 ≤ x14_5
                            · rw [if_pos c42] at H
                              have c42b0 : decide (0 ≤ x14_5) = true := decide_eq_true c42
                              clear c42
                              by_cases c43 : x14_5 < (t524.length : Int)
                              · rw [if_pos c43] at H
                                have c43b0 : decide (x14_5 < (t524.length : Int)) = true := decide_eq_true c43
                                clear c43
                                by_cases c44 : (rd t524 x13_3) = (rd t524 x14_5)
                                · rw [if_pos c44] at H
                                  have c44b0 : ((rd t524 x13_3) == (rd t524 x14_5)) = true := beq_iff_eq.mpr c44
                                  have c44b1 : ((rd t524 x13_3) != (rd t524 x14_5)) = false := bne_eq_false_iff_eq.mpr c44
                                  clear c44
                                  by_cases c45 : x13_3 < (l0.length : Int)
                                  · rw [if_pos c45] at H
                                    have c45b0 : decide (x13_3 < (l0.length : Int)) = true := decide_eq_true c45
                                    clear c45
                                    by_cases c46 : x14_5 < (l0.length : Int)
                                    · rw [if_pos c46] at H
                                      have c46b0 : decide (x14_5 < (l0.length : Int)) = true := decide_eq_true c46
                                      clear c46
                                      by_cases c47 : ((rd_T32 l0 x13_3).f0) < ((rd_T32 l0 x14_5).f1)
                                      · rw [if_pos c47] at H
                                        have c47b0 : decide (((rd_T32 l0 x13_3).f0) < ((rd_T32 l0 x14_5).f1)) = true := decide_eq_true c47
                                        clear c47
                                        have H' := Aside0.mk H
                                        clear H
                                        obtain ⟨Ao48, co48, eo48⟩ := Kd.R_slice HO_5.out
                                        subst eo48
                                        have p535 : 0 ≤ (x13_3 : Int) := of_decide_eq_true (by first | (with_reducible assumption) | assumption)
                                        have q535 : x13_3 < (t524.length : Int) := of_decide_eq_true (by first | (with_reducible assumption) | assumption)
                                        obtain ⟨ad535, e535, hx535_0⟩ := Kd.at_int (Kd.R_reads' HO_5.out).2.2 x13_3 p535 q535
                                        cases e535
                                        replace p535 := eq_true p535
                                        replace q535 := eq_true q535
                                        have p536 : 0 ≤ (x14_5 : Int) := of_decide_eq_true (by first | (with_reducible assumption) | assumption)
                                        have q536 : x14_5 < (t524.length : Int) := of_decide_eq_true (by first | (with_reducible assumption) | assumption)
                                        obtain ⟨ad536, e536, hx536_0⟩ := Kd.at_int (Kd.R_reads' HO_5.out).2.2 x14_5 p536 q536
                                        obtain rfl : ad535 = ad536 := (by injection e536)
                                        replace p536 := eq_true p536
                                        replace q536 := eq_true q536
                                        have p537 : 0 ≤ (x13_3 : Int) := of_decide_eq_true (by first | (with_reducible assumption) | assumption)
                                        have q537 : x13_3 < (l0.length : Int) := of_decide_eq_true (by first | (with_reducible assumption) | assumption)
                                        obtain ⟨ad537, e537, hx537_0, hx537_1⟩ := at_T32 HR0.out x13_3 p537 q537
                                        cases e537
                                        replace hx537_0 := (HB.out.cell (World.block_lt_of_cell? w _ hx537_0)).trans hx537_0
                                        replace hx537_1 := (HB.out.cell (World.block_lt_of_cell? w _ hx537_1)).trans hx537_1
                                        replace p537 := eq_true p537
                                        replace q537 := eq_true q537
                                        have p538 : 0 ≤ (x14_5 : Int) := of_decide_eq_true (by first | (with_reducible assumption) | assumption)
                                        have q538 : x14_5 < (l0.length : Int) := of_decide_eq_true (by first | (with_reducible assumption) | assumption)
                                        obtain ⟨ad538, e538, hx538_0, hx538_1⟩ := at_T32 HR0.out x14_5 p538 q538
                                        obtain rfl : ad537 = ad538 := (by injection e538)
                                        replace hx538_0 := (HB.out.cell (World.block_lt_of_cell? w _ hx538_0)).trans hx538_0
                                        replace hx538_1 := (HB.out.cell (World.block_lt_of_cell? w _ hx538_1)).trans hx538_1
                                        replace p538 := eq_true p538
                                        replace q538 := eq_true q538
                                        have p539 : 0 ≤ (x14_5 : Int) := of_decide_eq_true (by first | (with_reducible assumption) | assumption)
                                        have q539 : x14_5 < (l0.length : Int) := of_decide_eq_true (by first | (with_reducible assumption) | assumption)
                                        obtain ⟨ad539, e539, hx539_0, hx539_1⟩ := at_T32 HR0.out x14_5 p539 q539
                                        obtain rfl : ad537 = ad539 := (by injection e539)
                                        replace hx539_0 := (HB.out.cell (World.block_lt_of_cell? w _ hx539_0)).trans hx539_0
                                        replace hx539_1 := (HB.out.cell (World.block_lt_of_cell? w _ hx539_1)).trans hx539_1
                                        replace p539 := eq_true p539
                                        replace q539 := eq_true q539
                                        have p540 : 0 ≤ (x13_3 : Int) := of_decide_eq_true (by first | (with_reducible assumption) | assumption)
                                        have q540 : x13_3 < (l0.length : Int) := of_decide_eq_true (by first | (with_reducible assumption) | assumption)
                                        obtain ⟨ad540, e540, hx540_0, hx540_1⟩ := at_T32 HR0.out x13_3 p540 q540
                                        obtain rfl : ad537 = ad540 := (by injection e540)
                                        replace hx540_0 := (HB.out.cell (World.block_lt_of_cell? w _ hx540_0)).trans hx540_0
                                        replace hx540_1 := (HB.out.cell (World.block_lt_of_cell? w _ hx540_1)).trans hx540_1
                                        replace p540 := eq_true p540
                                        replace q540 := eq_true q540
                                        go_wp2
                                        repeat (go_quiet (fail); try go_wp2)
                                        go_meet
                                        case rel => exact ⟨_, (decide (((rd_T32 l0 x14_5).f0) < ((rd_T32 l0 x13_3).f1))), (by first | rfl | (simp; done) | (simp [*]; done)), H', ⟨by have := HJ7.out; have := HJ24.out; have := HK3.out; have := HJ30.out; have := HK5.out; first | omega | exact Nat.le_refl _⟩, ⟨by (with_reducible repeat (first | apply Kd.R_alloc | apply Kd.R_drewN | apply Kd.R_drew)); exact HO_5.out⟩, ⟨by repeat (first | (with_reducible first | exact HB.out | apply below_alloc | apply pw_below_drewN | apply below_drew1) | exact HB.out)⟩⟩
                                      · rw [if_neg c47] at H
                                        have c47b0 : decide (((rd_T32 l0 x13_3).f0) < ((rd_T32 l0 x14_5).f1)) = false := decide_eq_false c47
                                        clear c47
                                        have H' := Aside0.mk H
                                        clear H
                                        obtain ⟨Ao49, co49, eo49⟩ := Kd.R_slice HO_5.out
                                        subst eo49
                                        have p535 : 0 ≤ (x13_3 : Int) := of_decide_eq_true (by first | (with_reducible assumption) | assumption)
                                        have q535 : x13_3 < (t524.length : Int) := of_decide_eq_true (by first | (with_reducible assumption) | assumption)
                                        obtain ⟨ad535, e535, hx535_0⟩ := Kd.at_int (Kd.R_reads' HO_5.out).2.2 x13_3 p535 q535
                                        cases e535
                                        replace p535 := eq_true p535
                                        replace q535 := eq_true q535
                                        have p536 : 0 ≤ (x14_5 : Int) := of_decide_eq_true (by first | (with_reducible assumption) | assumption)
                                        have q536 : x14_5 < (t524.length : Int) := of_decide_eq_true (by first | (with_reducible assumption) | assumption)
                                        obtain ⟨ad536, e536, hx536_0⟩ := Kd.at_int (Kd.R_reads' HO_5.out).2.2 x14_5 p536 q536
                                        obtain rfl : ad535 = ad536 := (by injection e536)
                                        replace p536 := eq_true p536
                                        replace q536 := eq_true q536
                                        have p537 : 0 ≤ (x13_3 : Int) := of_decide_eq_true (by first | (with_reducible assumption) | assumption)
                                        have q537 : x13_3 < (l0.length : Int) := of_decide_eq_true (by first | (with_reducible assumption) | assumption)
                                        obtain ⟨ad537, e537, hx537_0, hx537_1⟩ := at_T32 HR0.out x13_3 p537 q537
                                        cases e537
                                        replace hx537_0 := (HB.out.cell (World.block_lt_of_cell? w _ hx537_0)).trans hx537_0
                                        replace hx537_1 := (HB.out.cell (World.block_lt_of_cell? w _ hx537_1)).trans hx537_1
                                        replace p537 := eq_true p537
                                        replace q537 := eq_true q537
                                        have p538 : 0 ≤ (x14_5 : Int) := of_decide_eq_true (by first | (with_reducible assumption) | assumption)
                                        have q538 : x14_5 < (l0.length : Int) := of_decide_eq_true (by first | (with_reducible assumption) | assumption)
                                        obtain ⟨ad538, e538, hx538_0, hx538_1⟩ := at_T32 HR0.out x14_5 p538 q538
                                        obtain rfl : ad537 = ad538 := (by injection e538)
                                        replace hx538_0 := (HB.out.cell (World.block_lt_of_cell? w _ hx538_0)).trans hx538_0
                                        replace hx538_1 := (HB.out.cell (World.block_lt_of_cell? w _ hx538_1)).trans hx538_1
                                        replace p538 := eq_true p538
                                        replace q538 := eq_true q538
                                        go_wp2
                                        repeat (go_quiet (fail); try go_wp2)
                                        go_meet
                                        case rel => exact ⟨_, (false), (by first | rfl | (simp; done) | (simp [*]; done)), H', ⟨by have := HJ7.out; have := HJ24.out; have := HK3.out; have := HJ30.out; have := HK5.out; first | omega | exact Nat.le_refl _⟩, ⟨by (with_reducible repeat (first | apply Kd.R_alloc | apply Kd.R_drewN | apply Kd.R_drew)); exact HO_5.out⟩, ⟨by repeat (first | (with_reducible first | exact HB.out | apply below_alloc | apply pw_below_drewN | apply below_drew1) | exact HB.out)⟩⟩
                                    · rw [if_neg c46] at H
                                      exact absurd H (by simp)
                                  · rw [if_neg c45] at H
                                    exact absurd H (by simp)
                                · rw [if_neg c44] at H
                                  have c44b0 : ((rd t524 x13_3) == (rd t524 x14_5)) = false := beq_eq_false_iff_ne.mpr c44
                                  have c44b1 : ((rd t524 x13_3) != (rd t524 x14_5)) = true := bne_iff_ne.mpr c44
                                  have H' := Aside0.mk H
                                  clear H
                                  obtain ⟨Ao50, co50, eo50⟩ := Kd.R_slice HO_5.out
                                  subst eo50
                                  have p535 : 0 ≤ (x13_3 : Int) := of_decide_eq_true (by first | (with_reducible assumption) | assumption)
                                  have q535 : x13_3 < (t524.length : Int) := of_decide_eq_true (by first | (with_reducible assumption) | assumption)
                                  obtain ⟨ad535, e535, hx535_0⟩ := Kd.at_int (Kd.R_reads' HO_5.out).2.2 x13_3 p535 q535
                                  cases e535
                                  replace p535 := eq_true p535
                                  replace q535 := eq_true q535
                                  have p536 : 0 ≤ (x14_5 : Int) := of_decide_eq_true (by first | (with_reducible assumption) | assumption)
                                  have q536 : x14_5 < (t524.length : Int) := of_decide_eq_true (by first | (with_reducible assumption) | assumption)
                                  obtain ⟨ad536, e536, hx536_0⟩ := Kd.at_int (Kd.R_reads' HO_5.out).2.2 x14_5 p536 q536
                                  obtain rfl : ad535 = ad536 := (by injection e536)
                                  replace p536 := eq_true p536
                                  replace q536 := eq_true q536
                                  go_wp2
                                  repeat (go_quiet (fail); try go_wp2)
                                  go_meet
                                  case rel => exact ⟨_, (false), (by first | rfl | (simp; done) | (simp [*]; done)), H', ⟨by have := HJ7.out; have := HJ24.out; have := HK3.out; have := HJ30.out; have := HK5.out; first | omega | exact Nat.le_refl _⟩, ⟨by (with_reducible repeat (first | apply Kd.R_alloc | apply Kd.R_drewN | apply Kd.R_drew)); exact HO_5.out⟩, ⟨by repeat (first | (with_reducible first | exact HB.out | apply below_alloc | apply pw_below_drewN | apply below_drew1) | exact HB.out)⟩⟩
                              · rw [if_neg c43] at H
                                exact absurd H (by simp)
                            · rw [if_neg c42] at H
                              exact absurd H (by simp)
                          · rw [if_neg c41] at H
                            exact absurd H (by simp)
                        · rw [if_neg c40] at H
                          exact absurd H (by simp)
                       case rest =>
                        as_aux_lemma =>
                        clear HC39
                        try clear c1
                        try clear c2
                        try clear p2
                        try clear c3
                        try clear c3b0
                        try clear c3b1
                        try clear c4
                        try clear p5
                        try clear q5
                        try clear hx5
                        try clear c9
                        try clear c11
                        try clear c11b0
                        try clear c11b1
                        try clear c12
                        try clear c13
                        try clear c13b0
                        try clear c13b1
                        try clear c14
                        try clear c14b0
                        try clear c14b1
                        try clear c14b2
                        try clear c15
                        try clear c15b0
                        try clear c15b1
                        try clear c16
                        try clear c16b0
                        try clear c16b1
                        try clear c17
                        try clear c17b0
                        try clear c17b1
                        try clear c26
                        try clear c26b0
                        try clear c26b1
                        try clear c26b2
                        try clear c29
                        try clear c30
                        try clear c30b0
                        try clear c32
                        try clear c32b0
                        try clear c33
                        try clear c33b0
                        try clear c34
                        try clear c34b0
                        try clear c37
                        try clear c38
                        try clear c38b0
                        try clear c40
                        try clear c40b0
                        try clear c41
                        try clear c41b0
                        try clear c42
                        try clear c42b0
                        try clear c43
                        try clear c43b0
                        try clear c44
                        try clear c44b0
                        try clear c44b1
                        try clear c45
                        try clear c45b0
                        try clear c46
                        try clear c46b0
                        try clear c47
                        try clear c47b0
                        try clear hx533_0
                        try clear hx534_0
                        try clear hx535_0
                        try clear hx536_0
                        try clear hx537_0
                        try clear hx537_1
                        try clear hx538_0
                        try clear hx538_1
                        try clear hx539_0
                        try clear hx539_1
                        try clear hx540_0
                        try clear hx540_1
                        try clear p2
                        try clear p5
                        try clear p533
                        try clear p534
                        try clear p535
                        try clear p536
                        try clear p537
                        try clear p538
                        try clear p539
                        try clear p540
                        try clear q5
                        try clear q533
                        try clear q534
                        try clear q535
                        try clear q536
                        try clear q537
                        try clear q538
                        try clear q539
                        try clear q540
                        obtain ⟨kq, x128_38, rfl, HA, HJ38, HO_5, HB⟩ := hcut
                        cases kq with
                        | zero => exact absurd HA.out (by simp [kimberlitelaw01_SpanLaid.j5])
                        | succ kj38 =>
                         have H := HA.out
                         clear HA
                         simp only [kimberlitelaw01_SpanLaid.j5] at H
                         by_cases c51 : x128_38 = true
                         · subst c51
                           have H1 : (some false) = some r := by rw [if_pos rfl] at H; exact H
                           clear H
                           have H := H1
                           clear H1
                           obtain rfl := Option.some.inj H
                           go_wp2
                           repeat (go_quiet (fail); try go_wp2)
                           go_ret
                           exact ⟨by first | rfl | (simp [errW_none, errW_some] <;> rfl) | (simp [*, errW_none, errW_some] <;> rfl), by repeat (first | (with_reducible first | exact HB.out | apply below_alloc | apply pw_below_drewN | apply below_drew1) | exact HB.out)⟩
                         · replace c51 := Bool.eq_false_iff.mpr c51
                           subst c51
                           have H1 : (kimberlitelaw01_SpanLaid.l1 kj38 l0 a1 t524 t525 t529 t530 x11_3 x12_3 x13_3 (wrap64 (x14_5 + 1))) = some r := by rw [if_neg (show ¬ (false = true) by decide)] at H; exact H
                           clear H
                           have H := H1
                           clear H1
                           have H' := Aside0.mk H
                           clear H
                           go_wp2
                           repeat (go_quiet (fail); try go_wp2)
                           go_roundg kj38
                           case measure => have := HJ7.out; have := HJ24.out; have := HK3.out; have := HJ30.out; have := HK5.out; have := HJ38.out; omega
                           case rel => exact ⟨(wrap64 (x14_5 + 1)), (by first | rfl | (simp; done) | (simp [*]; done)), H', ⟨by have := HJ7.out; have := HJ24.out; have := HK3.out; have := HJ30.out; have := HK5.out; have := HJ38.out; omega⟩, ⟨by (with_reducible repeat (first | apply Kd.R_alloc | apply Kd.R_drewN | apply Kd.R_drew)); exact HO_5.out⟩, ⟨by repeat (first | (with_reducible first | exact HB.out | apply below_alloc | apply pw_below_drewN | apply below_drew1) | exact HB.out)⟩⟩
                     · rw [if_neg c38] at H
                       have c38b0 : decide (x14_5 < x13_3) = false := decide_eq_false c38
                       clear c38
                       have HC52 := Aside0.mk H
                       clear H
                       go_upto_region 20 with (fail)
                       repeat (go_quiet (fail); go_upto_region 20 with (fail))
                       go_cut [144] (fun v144 wc => ∃ (kq : Nat) (x144_51 : Bool), v144 = .bool x144_51 ∧ Aside0 (kimberlitelaw01_SpanLaid.j6 kq l0 a1 t524 t525 t529 t530 x11_3 x12_3 x13_3 x144_51 = some r) ∧ Aside0 (kq ≤ k5) ∧ Aside0 (Kd.R (Kd.int .i64) 3 wc w.heap.size (fun _ => True) v527 t524) ∧ Aside0 (Below w.heap.size w wc))
                       case first =>
                        as_aux_lemma =>
                        have H := HC52.out
                        clear HC52
                        by_cases c53 : 0 ≤ x13_3
                        · rw [if_pos c53] at H
                          have c53b0 : decide (0 ≤ x13_3) = true := decide_eq_true c53
                          clear c53
                          (first | rw [c53b0] | (simp only [i64_w, i32_w]; rw [c53b0]) | skip)
                          by_cases c54 : x13_3 < (l0.length : Int)
                          · rw [if_pos c54] at H
                            have c54b0 : decide (x13_3 < (l0.length : Int)) = true := decide_eq_true c54
                            clear c54
                            by_cases c55 : ((rd_T32 l0 x13_3).f0) ≤ t530
                            · rw [if_pos c55] at H
                              have c55b0 : decide (((rd_T32 l0 x13_3).f0) ≤ t530) = true := decide_eq_true c55
                              clear c55
                              have H' := Aside0.mk H
                              clear H
                              have p541 : 0 ≤ (x13_3 : Int) := of_decide_eq_true (by first | (with_reducible assumption) | assumption)
                              have q541 : x13_3 < (l0.length : Int) := of_decide_eq_true (by first | (with_reducible assumption) | assumption)
                              obtain ⟨ad541, e541, hx541_0, hx541_1⟩ := at_T32 HR0.out x13_3 p541 q541
                              cases e541
                              replace hx541_0 := (HB.out.cell (World.block_lt_of_cell? w _ hx541_0)).trans hx541_0
                              replace hx541_1 := (HB.out.cell (World.block_lt_of_cell? w _ hx541_1)).trans hx541_1
                              replace p541 := eq_true p541
                              replace q541 := eq_true q541
                              have p542 : 0 ≤ (x13_3 : Int) := of_decide_eq_true (by first | (with_reducible assumption) | assumption)
                              have q542 : x13_3 < (l0.length : Int) := of_decide_eq_true (by first | (with_reducible assumption) | assumption)
                              obtain ⟨ad542, e542, hx542_0, hx542_1⟩ := at_T32 HR0.out x13_3 p542 q542
                              obtain rfl : ad541 = ad542 := (by injection e542)
                              replace hx542_0 := (HB.out.cell (World.block_lt_of_cell? w _ hx542_0)).trans hx542_0
                              replace hx542_1 := (HB.out.cell (World.block_lt_of_cell? w _ hx542_1)).trans hx542_1
                              replace p542 := eq_true p542
                              replace q542 := eq_true q542
                              go_wp2
                              repeat (go_quiet (fail); try go_wp2)
                              go_meet
                              case rel => exact ⟨_, (decide (t530 < ((rd_T32 l0 x13_3).f1))), (by first | rfl | (simp; done) | (simp [*]; done)), H', ⟨by have := HJ7.out; have := HJ24.out; have := HK3.out; have := HJ30.out; have := HK5.out; first | omega | exact Nat.le_refl _⟩, ⟨by (with_reducible repeat (first | apply Kd.R_alloc | apply Kd.R_drewN | apply Kd.R_drew)); exact HO_5.out⟩, ⟨by repeat (first | (with_reducible first | exact HB.out | apply below_alloc | apply pw_below_drewN | apply below_drew1) | exact HB.out)⟩⟩
                            · rw [if_neg c55] at H
                              have c55b0 : decide (((rd_T32 l0 x13_3).f0) ≤ t530) = false := decide_eq_false c55
                              clear c55
                              have H' := Aside0.mk H
                              clear H
                              have p541 : 0 ≤ (x13_3 : Int) := of_decide_eq_true (by first | (with_reducible assumption) | assumption)
                              have q541 : x13_3 < (l0.length : Int) := of_decide_eq_true (by first | (with_reducible assumption) | assumption)
                              obtain ⟨ad541, e541, hx541_0, hx541_1⟩ := at_T32 HR0.out x13_3 p541 q541
                              cases e541
                              replace hx541_0 := (HB.out.cell (World.block_lt_of_cell? w _ hx541_0)).trans hx541_0
                              replace hx541_1 := (HB.out.cell (World.block_lt_of_cell? w _ hx541_1)).trans hx541_1
                              replace p541 := eq_true p541
                              replace q541 := eq_true q541
                              go_wp2
                              repeat (go_quiet (fail); try go_wp2)
                              go_meet
                              case rel => exact ⟨_, (false), (by first | rfl | (simp; done) | (simp [*]; done)), H', ⟨by have := HJ7.out; have := HJ24.out; have := HK3.out; have := HJ30.out; have := HK5.out; first | omega | exact Nat.le_refl _⟩, ⟨by (with_reducible repeat (first | apply Kd.R_alloc | apply Kd.R_drewN | apply Kd.R_drew)); exact HO_5.out⟩, ⟨by repeat (first | (with_reducible first | exact HB.out | apply below_alloc | apply pw_below_drewN | apply below_drew1) | exact HB.out)⟩⟩
                          · rw [if_neg c54] at H
                            exact absurd H (by simp)
                        · rw [if_neg c53] at H
                          exact absurd H (by simp)
                       case rest =>
                        as_aux_lemma =>
                        clear HC52
                        try clear c1
                        try clear c2
                        try clear p2
                        try clear c3
                        try clear c3b0
                        try clear c3b1
                        try clear c4
                        try clear c5
                        try clear p5
                        try clear q5
                        try clear hx5
                        try clear p6
                        try clear c9
                        try clear c11
                        try clear c11b0
                        try clear c11b1
                        try clear c12
                        try clear c13
                        try clear c13b0
                        try clear c13b1
                        try clear c14
                        try clear c14b0
                        try clear c14b1
                        try clear c14b2
                        try clear c15
                        try clear c15b0
                        try clear c15b1
                        try clear c16
                        try clear c16b0
                        try clear c16b1
                        try clear c17
                        try clear c17b0
                        try clear c17b1
                        try clear c26
                        try clear c26b0
                        try clear c26b1
                        try clear c26b2
                        try clear c29
                        try clear c30
                        try clear c30b0
                        try clear c32
                        try clear c32b0
                        try clear c33
                        try clear c33b0
                        try clear c34
                        try clear c34b0
                        try clear c37
                        try clear c38
                        try clear c38b0
                        try clear c40
                        try clear c40b0
                        try clear c41
                        try clear c41b0
                        try clear c42
                        try clear c42b0
                        try clear c43
                        try clear c43b0
                        try clear c44
                        try clear c44b0
                        try clear c44b1
                        try clear c45
                        try clear c45b0
                        try clear c46
                        try clear c46b0
                        try clear c47
                        try clear c47b0
                        try clear c51
                        try clear c53
                        try clear c53b0
                        try clear p53
                        try clear q53
                        try clear hx53
                        try clear c54
                        try clear c54b0
                        try clear p54
                        try clear q54
                        try clear hx54
                        try clear c55
                        try clear c55b0
                        try clear hx533_0
                        try clear hx534_0
                        try clear hx535_0
                        try clear hx536_0
                        try clear hx537_0
                        try clear hx537_1
                        try clear hx538_0
                        try clear hx538_1
                        try clear hx539_0
                        try clear hx539_1
                        try clear hx540_0
                        try clear hx540_1
                        try clear hx541_0
                        try clear hx541_1
                        try clear hx542_0
                        try clear hx542_1
                        try clear p2
                        try clear p5
                        try clear p533
                        try clear p534
                        try clear p535
                        try clear p536
                        try clear p537
                        try clear p538
                        try clear p539
                        try clear p540
                        try clear p541
                        try clear p542
                        try clear q5
                        try clear q533
                        try clear q534
                        try clear q535
                        try clear q536
                        try clear q537
                        try clear q538
                        try clear q539
                        try clear q540
                        try clear q541
                        try clear q542
                        obtain ⟨kq, x144_51, rfl, HA, HJ51, HO_5, HB⟩ := hcut
                        cases kq with
                        | zero => exact absurd HA.out (by simp [kimberlitelaw01_SpanLaid.j6])
                        | succ kj51 =>
                         have H := HA.out
                         clear HA
                         simp only [kimberlitelaw01_SpanLaid.j6] at H
                         have HC56 := Aside0.mk H
                         clear H
                         go_upto_if 144 with (fail)
                         repeat (go_quiet (fail); go_upto_if 144 with (fail))
                         go_cut [11] (fun v11 wc => ∃ (kq : Nat) (x11_55 : Int), v11 = .int .i64 x11_55 ∧ Aside0 (kimberlitelaw01_SpanLaid.j7 kq l0 a1 t524 t525 t529 t530 x11_55 x12_3 x13_3 = some r) ∧ Aside0 (kq ≤ kj51) ∧ Aside0 (Kd.R (Kd.int .i64) 3 wc w.heap.size (fun _ => True) v527 t524) ∧ Aside0 (Below w.heap.size w wc))
                         case first =>
                          as_aux_lemma =>
                          have H := HC56.out
                          clear HC56
                          by_cases c57 : x144_51 = true
                          · subst c57
                            have H1 : (kimberlitelaw01_SpanLaid.j7 kj51 l0 a1 t524 t525 t529 t530 (wrap64 (x11_3 + 1)) x12_3 x13_3) = some r := by rw [if_pos rfl] at H; exact H
                            clear H
                            have H := H1
                            clear H1
                            have H' := Aside0.mk H
                            clear H
                            go_wp2
                            repeat (go_quiet (fail); try go_wp2)
                            go_meet
                            case rel => exact ⟨_, (wrap64 (x11_3 + 1)), (by first | rfl | (simp; done) | (simp [*]; done)), H', ⟨by have := HJ7.out; have := HJ24.out; have := HK3.out; have := HJ30.out; have := HK5.out; have := HJ51.out; first | omega | exact Nat.le_refl _⟩, ⟨by (with_reducible repeat (first | apply Kd.R_alloc | apply Kd.R_drewN | apply Kd.R_drew)); exact HO_5.out⟩, ⟨by repeat (first | (with_reducible first | exact HB.out | apply below_alloc | apply pw_below_drewN | apply below_drew1) | exact HB.out)⟩⟩
                          · replace c57 := Bool.eq_false_iff.mpr c57
                            subst c57
                            have H1 : (kimberlitelaw01_SpanLaid.j7 kj51 l0 a1 t524 t525 t529 t530 x11_3 x12_3 x13_3) = some r := by rw [if_neg (show ¬ (false = true) by decide)] at H; exact H
                            clear H
                            have H := H1
                            clear H1
                            have H' := Aside0.mk H
                            clear H
                            go_wp2
                            repeat (go_quiet (fail); try go_wp2)
                            go_meet
                            case rel => exact ⟨_, (x11_3), (by first | rfl | (simp; done) | (simp [*]; done)), H', ⟨by have := HJ7.out; have := HJ24.out; have := HK3.out; have := HJ30.out; have := HK5.out; have := HJ51.out; first | omega | exact Nat.le_refl _⟩, ⟨by (with_reducible repeat (first | apply Kd.R_alloc | apply Kd.R_drewN | apply Kd.R_drew)); exact HO_5.out⟩, ⟨by repeat (first | (with_reducible first | exact HB.out | apply below_alloc | apply pw_below_drewN | apply below_drew1) | exact HB.out)⟩⟩
                         case rest =>
                          as_aux_lemma =>
                          clear HC56
                          try clear c1
                          try clear c2
                          try clear p2
                          try clear c3
                          try clear c3b0
                          try clear c3b1
                          try clear c4
                          try clear c5
                          try clear p5
                          try clear q5
                          try clear hx5
                          try clear p6
                          try clear c9
                          try clear c11
                          try clear c11b0
                          try clear c11b1
                          try clear c12
                          try clear c13
                          try clear c13b0
                          try clear c13b1
                          try clear c14
                          try clear c14b0
                          try clear c14b1
                          try clear c14b2
                          try clear c15
                          try clear c15b0
                          try clear c15b1
                          try clear c16
                          try clear c16b0
                          try clear c16b1
                          try clear c17
                          try clear c17b0
                          try clear c17b1
                          try clear c26
                          try clear c26b0
                          try clear c26b1
                          try clear c26b2
                          try clear c29
                          try clear c30
                          try clear c30b0
                          try clear c32
                          try clear c32b0
                          try clear c33
                          try clear c33b0
                          try clear c34
                          try clear c34b0
                          try clear c37
                          try clear c38
                          try clear c38b0
                          try clear c40
                          try clear c40b0
                          try clear c41
                          try clear c41b0
                          try clear c42
                          try clear c42b0
                          try clear c43
                          try clear c43b0
                          try clear c44
                          try clear c44b0
                          try clear c44b1
                          try clear c45
                          try clear c45b0
                          try clear c46
                          try clear c46b0
                          try clear c47
                          try clear c47b0
                          try clear c51
                          try clear c53
                          try clear c53b0
                          try clear p53
                          try clear q53
                          try clear hx53
                          try clear c54
                          try clear c54b0
                          try clear p54
                          try clear q54
                          try clear hx54
                          try clear c55
                          try clear c55b0
                          try clear c57
                          try clear hx533_0
                          try clear hx534_0
                          try clear hx535_0
                          try clear hx536_0
                          try clear hx537_0
                          try clear hx537_1
                          try clear hx538_0
                          try clear hx538_1
                          try clear hx539_0
                          try clear hx539_1
                          try clear hx540_0
                          try clear hx540_1
                          try clear hx541_0
                          try clear hx541_1
                          try clear hx542_0
                          try clear hx542_1
                          try clear p2
                          try clear p5
                          try clear p53
                          try clear p533
                          try clear p534
                          try clear p535
                          try clear p536
                          try clear p537
                          try clear p538
                          try clear p539
                          try clear p54
                          try clear p540
                          try clear p541
                          try clear p542
                          try clear p6
                          try clear q5
                          try clear q53
                          try clear q533
                          try clear q534
                          try clear q535
                          try clear q536
                          try clear q537
                          try clear q538
                          try clear q539
                          try clear q54
                          try clear q540
                          try clear q541
                          try clear q542
                          obtain ⟨kq, x11_55, rfl, HA, HJ55, HO_5, HB⟩ := hcut
                          cases kq with
                          | zero => exact absurd HA.out (by simp [kimberlitelaw01_SpanLaid.j7])
                          | succ kj55 =>
                           have H := HA.out
                           clear HA
                           simp only [kimberlitelaw01_SpanLaid.j7] at H
                           have HC58 := Aside0.mk H
                           clear H
                           go_upto_region 22 with (fail)
                           repeat (go_quiet (fail); go_upto_region 22 with (fail))
                           go_cut [162] (fun v162 wc => ∃ (kq : Nat) (x162_57 : Bool), v162 = .bool x162_57 ∧ Aside0 (kimberlitelaw01_SpanLaid.j8 kq l0 a1 t524 t525 t529 t530 x11_55 x12_3 x13_3 x162_57 = some r) ∧ Aside0 (kq ≤ kj55) ∧ Aside0 (Kd.R (Kd.int .i64) 3 wc w.heap.size (fun _ => True) v527 t524) ∧ Aside0 (Below w.heap.size w wc))
                           case first =>
                            as_aux_lemma =>
                            have H := HC58.out
                            clear HC58
                            by_cases c59 : 0 ≤ x13_3
                            · rw [if_pos c59] at H
                              have c59b0 : decide (0 ≤ x13_3) = true := decide_eq_true c59
                              clear c59
                              (first | rw [c59b0] | (simp only [i64_w, i32_w]; rw [c59b0]) | skip)
                              by_cases c60 : x13_3 < (l0.length : Int)
                              · rw [if_pos c60] at H
                                have c60b0 : decide (x13_3 < (l0.length : Int)) = true := decide_eq_true c60
                                clear c60
                                by_cases c61 : ((rd_T32 l0 x13_3).f0) ≤ a1
                                · rw [if_pos c61] at H
                                  have c61b0 : decide (((rd_T32 l0 x13_3).f0) ≤ a1) = true := decide_eq_true c61
                                  clear c61
                                  have H' := Aside0.mk H
                                  clear H
                                  have p543 : 0 ≤ (x13_3 : Int) := of_decide_eq_true (by first | (with_reducible assumption) | assumption)
                                  have q543 : x13_3 < (l0.length : Int) := of_decide_eq_true (by first | (with_reducible assumption) | assumption)
                                  obtain ⟨ad543, e543, hx543_0, hx543_1⟩ := at_T32 HR0.out x13_3 p543 q543
                                  cases e543
                                  replace hx543_0 := (HB.out.cell (World.block_lt_of_cell? w _ hx543_0)).trans hx543_0
                                  replace hx543_1 := (HB.out.cell (World.block_lt_of_cell? w _ hx543_1)).trans hx543_1
                                  replace p543 := eq_true p543
                                  replace q543 := eq_true q543
                                  have p544 : 0 ≤ (x13_3 : Int) := of_decide_eq_true (by first | (with_reducible assumption) | assumption)
                                  have q544 : x13_3 < (l0.length : Int) := of_decide_eq_true (by first | (with_reducible assumption) | assumption)
                                  obtain ⟨ad544, e544, hx544_0, hx544_1⟩ := at_T32 HR0.out x13_3 p544 q544
                                  obtain rfl : ad543 = ad544 := (by injection e544)
                                  replace hx544_0 := (HB.out.cell (World.block_lt_of_cell? w _ hx544_0)).trans hx544_0
                                  replace hx544_1 := (HB.out.cell (World.block_lt_of_cell? w _ hx544_1)).trans hx544_1
                                  replace p544 := eq_true p544
                                  replace q544 := eq_true q544
                                  go_wp2
                                  repeat (go_quiet (fail); try go_wp2)
                                  go_meet
                                  case rel => exact ⟨_, (decide (a1 < ((rd_T32 l0 x13_3).f1))), (by first | rfl | (simp; done) | (simp [*]; done)), H', ⟨by have := HJ7.out; have := HJ24.out; have := HK3.out; have := HJ30.out; have := HK5.out; have := HJ51.out; have := HJ55.out; first | omega | exact Nat.le_refl _⟩, ⟨by (with_reducible repeat (first | apply Kd.R_alloc | apply Kd.R_drewN | apply Kd.R_drew)); exact HO_5.out⟩, ⟨by repeat (first | (with_reducible first | exact HB.out | apply below_alloc | apply pw_below_drewN | apply below_drew1) | exact HB.out)⟩⟩
                                · rw [if_neg c61] at H
                                  have c61b0 : decide (((rd_T32 l0 x13_3).f0) ≤ a1) = false := decide_eq_false c61
                                  clear c61
                                  have H' := Aside0.mk H
                                  clear H
                                  have p543 : 0 ≤ (x13_3 : Int) := of_decide_eq_true (by first | (with_reducible assumption) | assumption)
                                  have q543 : x13_3 < (l0.length : Int) := of_decide_eq_true (by first | (with_reducible assumption) | assumption)
                                  obtain ⟨ad543, e543, hx543_0, hx543_1⟩ := at_T32 HR0.out x13_3 p543 q543
                                  cases e543
                                  replace hx543_0 := (HB.out.cell (World.block_lt_of_cell? w _ hx543_0)).trans hx543_0
                                  replace hx543_1 := (HB.out.cell (World.block_lt_of_cell? w _ hx543_1)).trans hx543_1
                                  replace p543 := eq_true p543
                                  replace q543 := eq_true q543
                                  go_wp2
                                  repeat (go_quiet (fail); try go_wp2)
                                  go_meet
                                  case rel => exact ⟨_, (false), (by first | rfl | (simp; done) | (simp [*]; done)), H', ⟨by have := HJ7.out; have := HJ24.out; have := HK3.out; have := HJ30.out; have := HK5.out; have := HJ51.out; have := HJ55.out; first | omega | exact Nat.le_refl _⟩, ⟨by (with_reducible repeat (first | apply Kd.R_alloc | apply Kd.R_drewN | apply Kd.R_drew)); exact HO_5.out⟩, ⟨by repeat (first | (with_reducible first | exact HB.out | apply below_alloc | apply pw_below_drewN | apply below_drew1) | exact HB.out)⟩⟩
                              · rw [if_neg c60] at H
                                exact absurd H (by simp)
                            · rw [if_neg c59] at H
                              exact absurd H (by simp)
                           case rest =>
                            as_aux_lemma =>
                            clear HC58
                            try clear c1
                            try clear c2
                            try clear p2
                            try clear c3
                            try clear c3b0
                            try clear c3b1
                            try clear c4
                            try clear c5
                            try clear p5
                            try clear q5
                            try clear hx5
                            try clear c6
                            try clear p6
                            try clear c9
                            try clear c11
                            try clear c11b0
                            try clear c11b1
                            try clear c12
                            try clear c13
                            try clear c13b0
                            try clear c13b1
                            try clear c14
                            try clear c14b0
                            try clear c14b1
                            try clear c14b2
                            try clear c15
                            try clear c15b0
                            try clear c15b1
                            try clear c16
                            try clear c16b0
                            try clear c16b1
                            try clear c17
                            try clear c17b0
                            try clear c17b1
                            try clear c26
                            try clear c26b0
                            try clear c26b1
                            try clear c26b2
                            try clear c29
                            try clear c30
                            try clear c30b0
                            try clear c32
                            try clear c32b0
                            try clear c33
                            try clear c33b0
                            try clear c34
                            try clear c34b0
                            try clear c37
                            try clear c38
                            try clear c38b0
                            try clear c40
                            try clear c40b0
                            try clear c41
                            try clear c41b0
                            try clear c42
                            try clear c42b0
                            try clear c43
                            try clear c43b0
                            try clear c44
                            try clear c44b0
                            try clear c44b1
                            try clear c45
                            try clear c45b0
                            try clear c46
                            try clear c46b0
                            try clear c47
                            try clear c47b0
                            try clear c51
                            try clear c53
                            try clear c53b0
                            try clear p53
                            try clear q53
                            try clear hx53
                            try clear c54
                            try clear c54b0
                            try clear p54
                            try clear q54
                            try clear hx54
                            try clear c55
                            try clear c55b0
                            try clear c57
                            try clear c59
                            try clear c59b0
                            try clear c60
                            try clear c60b0
                            try clear c61
                            try clear c61b0
                            try clear hx533_0
                            try clear hx534_0
                            try clear hx535_0
                            try clear hx536_0
                            try clear hx537_0
                            try clear hx537_1
                            try clear hx538_0
                            try clear hx538_1
                            try clear hx539_0
                            try clear hx539_1
                            try clear hx540_0
                            try clear hx540_1
                            try clear hx541_0
                            try clear hx541_1
                            try clear hx542_0
                            try clear hx542_1
                            try clear hx543_0
                            try clear hx543_1
                            try clear hx544_0
                            try clear hx544_1
                            try clear p2
                            try clear p5
                            try clear p53
                            try clear p533
                            try clear p534
                            try clear p535
                            try clear p536
                            try clear p537
                            try clear p538
                            try clear p539
                            try clear p54
                            try clear p540
                            try clear p541
                            try clear p542
                            try clear p543
                            try clear p544
                            try clear p6
                            try clear q5
                            try clear q53
                            try clear q533
                            try clear q534
                            try clear q535
                            try clear q536
                            try clear q537
                            try clear q538
                            try clear q539
                            try clear q54
                            try clear q540
                            try clear q541
                            try clear q542
                            try clear q543
                            try clear q544
                            obtain ⟨kq, x162_57, rfl, HA, HJ57, HO_5, HB⟩ := hcut
                            cases kq with
                            | zero => exact absurd HA.out (by simp [kimberlitelaw01_SpanLaid.j8])
                            | succ kj57 =>
                             have H := HA.out
                             clear HA
                             simp only [kimberlitelaw01_SpanLaid.j8] at H
                             by_cases c62 : x162_57 = true
                             · subst c62
                               have H1 : (kimberlitelaw01_SpanLaid.l0 kj57 l0 a1 t524 t525 t529 t530 x11_55 (wrap64 (x12_3 + 1)) (wrap64 (x13_3 + 1))) = some r := by rw [if_pos rfl] at H; exact H
                               clear H
                               have H := H1
                               clear H1
                               have H' := Aside0.mk H
                               clear H
                               go_wp2
                               repeat (go_quiet (fail); try go_wp2)
                               go_roundg kj57
                               case measure => have := HJ7.out; have := HJ24.out; have := HK3.out; have := HJ30.out; have := HK5.out; have := HJ51.out; have := HJ55.out; have := HJ57.out; omega
                               case rel => exact ⟨(x11_55), (wrap64 (x12_3 + 1)), (wrap64 (x13_3 + 1)), (by first | rfl | (simp; done) | (simp [*]; done)), (by first | rfl | (simp; done) | (simp [*]; done)), (by first | rfl | (simp; done) | (simp [*]; done)), H', ⟨by have := HJ7.out; have := HJ24.out; have := HK3.out; have := HJ30.out; have := HK5.out; have := HJ51.out; have := HJ55.out; have := HJ57.out; omega⟩, ⟨by (with_reducible repeat (first | apply Kd.R_alloc | apply Kd.R_drewN | apply Kd.R_drew)); exact HO_5.out⟩, ⟨by repeat (first | (with_reducible first | exact HB.out | apply below_alloc | apply pw_below_drewN | apply below_drew1) | exact HB.out)⟩⟩
                             · replace c62 := Bool.eq_false_iff.mpr c62
                               subst c62
                               have H1 : (kimberlitelaw01_SpanLaid.l0 kj57 l0 a1 t524 t525 t529 t530 x11_55 x12_3 (wrap64 (x13_3 + 1))) = some r := by rw [if_neg (show ¬ (false = true) by decide)] at H; exact H
                               clear H
                               have H := H1
                               clear H1
                               have H' := Aside0.mk H
                               clear H
                               go_wp2
                               repeat (go_quiet (fail); try go_wp2)
                               go_roundg kj57
                               case measure => have := HJ7.out; have := HJ24.out; have := HK3.out; have := HJ30.out; have := HK5.out; have := HJ51.out; have := HJ55.out; have := HJ57.out; omega
                               case rel => exact ⟨(x11_55), (x12_3), (wrap64 (x13_3 + 1)), (by first | rfl | (simp; done) | (simp [*]; done)), (by first | rfl | (simp; done) | (simp [*]; done)), (by first | rfl | (simp; done) | (simp [*]; done)), H', ⟨by have := HJ7.out; have := HJ24.out; have := HK3.out; have := HJ30.out; have := HK5.out; have := HJ51.out; have := HJ55.out; have := HJ57.out; omega⟩, ⟨by (with_reducible repeat (first | apply Kd.R_alloc | apply Kd.R_drewN | apply Kd.R_drew)); exact HO_5.out⟩, ⟨by repeat (first | (with_reducible first | exact HB.out | apply below_alloc | apply pw_below_drewN | apply below_drew1) | exact HB.out)⟩⟩
             · rw [if_neg c30] at H
               have c30b0 : decide (x13_3 < (l0.length : Int)) = false := decide_eq_false c30
               clear c30
               by_cases c63 : x11_3 = t529
               · rw [if_pos c63] at H
                 have c63b0 : (x11_3 == t529) = true := beq_iff_eq.mpr c63
                 have c63b1 : (x11_3 != t529) = false := bne_eq_false_iff_eq.mpr c63
                 clear c63
                 by_cases c64 : x12_3 ≤ t529
                 · rw [if_pos c64] at H
                   have c64b0 : decide (x12_3 ≤ t529) = true := decide_eq_true c64
                   clear c64
                   by_cases c65 : x12_3 < t529
                   · rw [if_pos c65] at H
                     have c65b0 : decide (x12_3 < t529) = true := decide_eq_true c65
                     clear c65
                     replace H := Option.bind_eq_some_iff.mp H
                     obtain ⟨t545, A660, H⟩ := H
                     replace H : (some t545) = some r := H
                     have A66 := Aside0.mk A660
                     clear A660
                     obtain rfl := Option.some.inj H
                     go_wp2_with (first | (go_at_call 16; (with_reducible refine (kimberlitelaw01_alive.calls k3  t545 _ A66.out).mono ?_); rintro e w67 ⟨rfl, hb⟩; have n0_ := Aside0.mk (Kd.R_below (by (with_reducible repeat (first | apply Kd.R_alloc | apply Kd.R_drewN | apply Kd.R_drew)); exact HO_5.out) hb); have n1_ := Aside0.mk (below_step (by repeat (first | (with_reducible first | exact HB.out | apply below_alloc | apply pw_below_drewN | apply below_drew1) | exact HB.out)) hb); clear HO_5; clear HB; have HO_5 := n0_; have HB := n1_; clear n0_ n1_; (try clear hb); (try clear hb2); (try clear hk); (try clear hi)))
                     repeat (go_quiet (first | (go_at_call 16; (with_reducible refine (kimberlitelaw01_alive.calls k3  t545 _ A66.out).mono ?_); rintro e w67 ⟨rfl, hb⟩; have n0_ := Aside0.mk (Kd.R_below (by (with_reducible repeat (first | apply Kd.R_alloc | apply Kd.R_drewN | apply Kd.R_drew)); exact HO_5.out) hb); have n1_ := Aside0.mk (below_step (by repeat (first | (with_reducible first | exact HB.out | apply below_alloc | apply pw_below_drewN | apply below_drew1) | exact HB.out)) hb); clear HO_5; clear HB; have HO_5 := n0_; have HB := n1_; clear n0_ n1_; (try clear hb); (try clear hb2); (try clear hk); (try clear hi))); try go_wp2_with (first | (go_at_call 16; (with_reducible refine (kimberlitelaw01_alive.calls k3  t545 _ A66.out).mono ?_); rintro e w67 ⟨rfl, hb⟩; have n0_ := Aside0.mk (Kd.R_below (by (with_reducible repeat (first | apply Kd.R_alloc | apply Kd.R_drewN | apply Kd.R_drew)); exact HO_5.out) hb); have n1_ := Aside0.mk (below_step (by repeat (first | (with_reducible first | exact HB.out | apply below_alloc | apply pw_below_drewN | apply below_drew1) | exact HB.out)) hb); clear HO_5; clear HB; have HO_5 := n0_; have HB := n1_; clear n0_ n1_; (try clear hb); (try clear hb2); (try clear hk); (try clear hi))))
                     go_ret
                     exact ⟨by first | rfl | (simp [errW_none, errW_some] <;> rfl) | (simp [*, errW_none, errW_some] <;> rfl), by repeat (first | (with_reducible first | exact HB.out | apply below_alloc | apply pw_below_drewN | apply below_drew1) | exact HB.out)⟩
                   · rw [if_neg c65] at H
                     have c65b0 : decide (x12_3 < t529) = false := decide_eq_false c65
                     clear c65
                     by_cases c68 : a1 ≥ t530
                     · rw [if_pos c68] at H
                       have c68b0 : decide (t530 ≤ a1) = true := decide_eq_true c68
                       clear c68
                       replace H := Option.bind_eq_some_iff.mp H
                       obtain ⟨t546, A690, H⟩ := H
                       replace H : (some t546) = some r := H
                       have A69 := Aside0.mk A690
                       clear A690
                       obtain rfl := Option.some.inj H
                       go_wp2_with (first | (go_at_call 16; (with_reducible refine (kimberlitelaw01_alive.calls k3  t546 _ A69.out).mono ?_); rintro e w70 ⟨rfl, hb⟩; have n0_ := Aside0.mk (Kd.R_below (by (with_reducible repeat (first | apply Kd.R_alloc | apply Kd.R_drewN | apply Kd.R_drew)); exact HO_5.out) hb); have n1_ := Aside0.mk (below_step (by repeat (first | (with_reducible first | exact HB.out | apply below_alloc | apply pw_below_drewN | apply below_drew1) | exact HB.out)) hb); clear HO_5; clear HB; have HO_5 := n0_; have HB := n1_; clear n0_ n1_; (try clear hb); (try clear hb2); (try clear hk); (try clear hi)))
                       repeat (go_quiet (first | (go_at_call 16; (with_reducible refine (kimberlitelaw01_alive.calls k3  t546 _ A69.out).mono ?_); rintro e w70 ⟨rfl, hb⟩; have n0_ := Aside0.mk (Kd.R_below (by (with_reducible repeat (first | apply Kd.R_alloc | apply Kd.R_drewN | apply Kd.R_drew)); exact HO_5.out) hb); have n1_ := Aside0.mk (below_step (by repeat (first | (with_reducible first | exact HB.out | apply below_alloc | apply pw_below_drewN | apply below_drew1) | exact HB.out)) hb); clear HO_5; clear HB; have HO_5 := n0_; have HB := n1_; clear n0_ n1_; (try clear hb); (try clear hb2); (try clear hk); (try clear hi))); try go_wp2_with (first | (go_at_call 16; (with_reducible refine (kimberlitelaw01_alive.calls k3  t546 _ A69.out).mono ?_); rintro e w70 ⟨rfl, hb⟩; have n0_ := Aside0.mk (Kd.R_below (by (with_reducible repeat (first | apply Kd.R_alloc | apply Kd.R_drewN | apply Kd.R_drew)); exact HO_5.out) hb); have n1_ := Aside0.mk (below_step (by repeat (first | (with_reducible first | exact HB.out | apply below_alloc | apply pw_below_drewN | apply below_drew1) | exact HB.out)) hb); clear HO_5; clear HB; have HO_5 := n0_; have HB := n1_; clear n0_ n1_; (try clear hb); (try clear hb2); (try clear hk); (try clear hi))))
                       go_ret
                       exact ⟨by first | rfl | (simp [errW_none, errW_some] <;> rfl) | (simp [*, errW_none, errW_some] <;> rfl), by repeat (first | (with_reducible first | exact HB.out | apply below_alloc | apply pw_below_drewN | apply below_drew1) | exact HB.out)⟩
                     · rw [if_neg c68] at H
                       have c68b0 : decide (t530 ≤ a1) = false := decide_eq_false c68
                       clear c68
                       by_cases c71 : t529 = 0
                       · rw [if_pos c71] at H
                         have c71b0 : (t529 == 0) = true := beq_iff_eq.mpr c71
                         have c71b1 : (t529 != 0) = false := bne_eq_false_iff_eq.mpr c71
                         clear c71
                         replace H := Option.bind_eq_some_iff.mp H
                         obtain ⟨t547, A720, H⟩ := H
                         replace H : (some t547) = some r := H
                         have A72 := Aside0.mk A720
                         clear A720
                         obtain rfl := Option.some.inj H
                         go_wp2_with (first | (go_at_call 16; (with_reducible refine (kimberlitelaw01_alive.calls k3  t547 _ A72.out).mono ?_); rintro e w73 ⟨rfl, hb⟩; have n0_ := Aside0.mk (Kd.R_below (by (with_reducible repeat (first | apply Kd.R_alloc | apply Kd.R_drewN | apply Kd.R_drew)); exact HO_5.out) hb); have n1_ := Aside0.mk (below_step (by repeat (first | (with_reducible first | exact HB.out | apply below_alloc | apply pw_below_drewN | apply below_drew1) | exact HB.out)) hb); clear HO_5; clear HB; have HO_5 := n0_; have HB := n1_; clear n0_ n1_; (try clear hb); (try clear hb2); (try clear hk); (try clear hi)))
                         repeat (go_quiet (first | (go_at_call 16; (with_reducible refine (kimberlitelaw01_alive.calls k3  t547 _ A72.out).mono ?_); rintro e w73 ⟨rfl, hb⟩; have n0_ := Aside0.mk (Kd.R_below (by (with_reducible repeat (first | apply Kd.R_alloc | apply Kd.R_drewN | apply Kd.R_drew)); exact HO_5.out) hb); have n1_ := Aside0.mk (below_step (by repeat (first | (with_reducible first | exact HB.out | apply below_alloc | apply pw_below_drewN | apply below_drew1) | exact HB.out)) hb); clear HO_5; clear HB; have HO_5 := n0_; have HB := n1_; clear n0_ n1_; (try clear hb); (try clear hb2); (try clear hk); (try clear hi))); try go_wp2_with (first | (go_at_call 16; (with_reducible refine (kimberlitelaw01_alive.calls k3  t547 _ A72.out).mono ?_); rintro e w73 ⟨rfl, hb⟩; have n0_ := Aside0.mk (Kd.R_below (by (with_reducible repeat (first | apply Kd.R_alloc | apply Kd.R_drewN | apply Kd.R_drew)); exact HO_5.out) hb); have n1_ := Aside0.mk (below_step (by repeat (first | (with_reducible first | exact HB.out | apply below_alloc | apply pw_below_drewN | apply below_drew1) | exact HB.out)) hb); clear HO_5; clear HB; have HO_5 := n0_; have HB := n1_; clear n0_ n1_; (try clear hb); (try clear hb2); (try clear hk); (try clear hi))))
                         go_ret
                         exact ⟨by first | rfl | (simp [errW_none, errW_some] <;> rfl) | (simp [*, errW_none, errW_some] <;> rfl), by repeat (first | (with_reducible first | exact HB.out | apply below_alloc | apply pw_below_drewN | apply below_drew1) | exact HB.out)⟩
                       · rw [if_neg c71] at H
                         have c71b0 : (t529 == 0) = false := beq_eq_false_iff_ne.mpr c71
                         have c71b1 : (t529 != 0) = true := bne_iff_ne.mpr c71
                         obtain rfl := Option.some.inj H
                         go_wp2
                         repeat (go_quiet (fail); try go_wp2)
                         go_ret
                         exact ⟨by first | rfl | (simp [errW_none, errW_some] <;> rfl) | (simp [*, errW_none, errW_some] <;> rfl), by repeat (first | (with_reducible first | exact HB.out | apply below_alloc | apply pw_below_drewN | apply below_drew1) | exact HB.out)⟩
                 · rw [if_neg c64] at H
                   have c64b0 : decide (x12_3 ≤ t529) = false := decide_eq_false c64
                   clear c64
                   obtain rfl := Option.some.inj H
                   go_wp2
                   repeat (go_quiet (fail); try go_wp2)
                   go_ret
                   exact ⟨by first | rfl | (simp [errW_none, errW_some] <;> rfl) | (simp [*, errW_none, errW_some] <;> rfl), by repeat (first | (with_reducible first | exact HB.out | apply below_alloc | apply pw_below_drewN | apply below_drew1) | exact HB.out)⟩
               · rw [if_neg c63] at H
                 have c63b0 : (x11_3 == t529) = false := beq_eq_false_iff_ne.mpr c63
                 have c63b1 : (x11_3 != t529) = true := bne_iff_ne.mpr c63
                 obtain rfl := Option.some.inj H
                 go_wp2
                 repeat (go_quiet (fail); try go_wp2)
                 go_ret
                 exact ⟨by first | rfl | (simp [errW_none, errW_some] <;> rfl) | (simp [*, errW_none, errW_some] <;> rfl), by repeat (first | (with_reducible first | exact HB.out | apply below_alloc | apply pw_below_drewN | apply below_drew1) | exact HB.out)⟩
end Go.Proofs.Ytningpmoojnomaa.Pr
end
section
namespace Go.Proofs.Ytningpmoojnomaa.Pr
open Go.RowKit Go.Proofs.YtningpmoojnomaaW.PrintWords Go.Proofs.YtningpmoojnomaaW.PrintLast Go.Proofs.YtningpmoojnomaaW.PrintMore
theorem alive_now : kimberlitelaw01_alive.f 40 = some true := by kernel_rfl
theorem alive_ev : Ev (fun k => kimberlitelaw01_alive.f k) true := Ev.of (fun k => kimberlitelaw01_alive.mono k) alive_now
end Go.Proofs.Ytningpmoojnomaa.Pr
end
section
namespace Go.Proofs.Ytningpmoojnomaa.Pr
open Go.RowKit Go.ChangeShapes Go.WideShapes Go.Deep Go.Joins Go.Proofs.YtningpmoojnomaaW.PrintWords Go.Proofs.YtningpmoojnomaaW.PrintLast Go.Proofs.YtningpmoojnomaaW.PrintMore
set_option linter.unusedVariables false
set_option linter.unusedSimpArgs false
section
variable {H : Type} {enc : TypeId × Value → H} {W : World}
/-- Both numbers of a span are int64s. -/
def okS (x : S32) : Prop := (Lit.int .i64 x.f0).wf = true ∧ (Lit.int .i64 x.f1).wf = true
set_option maxRecDepth 100000 in
theorem open_spans {a : Option Addr} {len cap : Nat} {d : DataW H} {p : List MemPlace} (h : DataW.Trod enc Try.prog W 0 (fun _ => true) true 22 (.slice a len cap) d p) :
    ∃ l : List S32, l.length = len ∧ l.length ≤ cap ∧ Kd.C k32 W a l.length l ∧ ∀ x ∈ l, okS x := by
  obtain ⟨fuel, hf⟩ := h
  rcases open_slice Try.underlying22 hf with ⟨hcs, _⟩ | ⟨ad, len', cap', m, n, D, Pl, hcs, _, hl, hm, hmm, _, hi⟩
  · simp [Value.cells] at hcs
    obtain ⟨rfl, rfl, rfl⟩ := hcs
    exact ⟨[], rfl, by simp, ⟨rfl, by simp, fun h => absurd h (by simp)⟩, fun x hx => absurd hx (by simp)⟩
  · simp [Value.cells] at hcs
    obtain ⟨rfl, rfl, rfl⟩ := hcs
    have hC : Try.prog.cellsOf 32 = 2 := by kernel_rfl
    have key : ∀ i, i < len → ∃ x : S32, okS x ∧ W.cell? (ad.add (i * 2)) = some (.int .i64 x.f0) ∧ W.cell? (ad.add (i * 2 + 1)) = some (.int .i64 x.f1) := by
      intro i hil
      obtain ⟨cs', hc, ht'⟩ := hi i (by rw [hmm]; simp; omega)
      rw [hC] at hc
      obtain ⟨ys, n', hn', hy, hlen, hyl, hfd⟩ := DataW.trod_struct Try.underlying32 ht'
      obtain ⟨_, hcl, hat⟩ := World.cells?_some hc
      match cs', hcl with
      | [c0, c1], _ =>
        have k3 : Try.prog.cellsOf 3 = 1 := by kernel_rfl
        obtain ⟨y0, hy0⟩ : ∃ y, ys[0]? = some y := ⟨_, List.getElem?_eq_getElem (by rw [hyl]; decide)⟩
        obtain ⟨y1, hy1⟩ : ∃ y, ys[1]? = some y := ⟨_, List.getElem?_eq_getElem (by rw [hyl]; decide)⟩
        have g0 := hfd 0 _ rfl
        have g1 := hfd 1 _ rfl
        dsimp only [List.getElem_toArray, List.getElem_cons_zero, List.getElem_cons_succ] at g0 g1
        rw [k3, hy0] at g0
        rw [k3, hy1] at g1
        simp only [List.drop_zero, List.drop_succ_cons, List.take_succ_cons, List.take_zero] at g0 g1
        obtain ⟨a0, e0, _, w0⟩ := DataW.trod_int Try.underlying3 g0
        obtain ⟨a1, e1, _, w1⟩ := DataW.trod_int Try.underlying3 g1
        simp at e0 e1
        subst e0 e1
        have h0 := hat 0 (by omega)
        have h1 := hat 1 (by omega)
        rw [Deep.add_add] at h0 h1
        exact ⟨⟨a0, a1⟩, ⟨w0, w1⟩, by simpa using h0, by simpa using h1⟩
    obtain ⟨f, hf⟩ := @choose_lt S32 ⟨z32⟩ _ _ key
    refine ⟨(List.range len).map f, by simp, by simpa using hl, ⟨by simp, by simp; simp only [maxLen] at hm; omega, fun _ => ⟨ad, rfl, fun j x hj => ?_⟩⟩, ?_⟩
    · obtain ⟨hjl, hx⟩ := List.getElem?_eq_some_iff.1 hj
      have hjl' : j < len := by simpa using hjl
      simp at hx
      subst hx
      obtain ⟨_, h0, h1⟩ := hf j hjl'
      refine ⟨_, rfl, k32_mk W (f j), fun i u hu => ?_⟩
      match i, hu with
      | 0, hu => simp at hu; subst hu; exact h0
      | 1, hu => simp at hu; subst hu; exact h1
      | i + 2, hu => simp at hu
    · intro x hx
      obtain ⟨j, hj, rfl⟩ := List.mem_map.1 hx
      exact (hf j (by simpa using hj)).1
end
end Go.Proofs.Ytningpmoojnomaa.Pr
end
