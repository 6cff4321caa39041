/- What the proof of the law needs, trimmed and merged by wip/pack.py out of the texts YtingjpcgehgiiaaPrx31, YtingjpcgehgiiaaWalkCurveFenchel, YtingjpcgehgiiaaRowCurveFenchel. No condition. -/
import Derived.Test.YtingjpcgehgiiaaRows
import Derived.WalkKit
import Derived.ProofKit
import Derived.OpenShut
import Derived.ShutString
import Derived.ChangeOld
import Derived.Below
import Derived.SizedLaws
import Derived.Test.YtingjpcgehgiiaaKCurveFenchel0
import Derived.Test.YtingjpcgehgiiaaKCurveFenchel1
import Derived.Test.YtingjpcgehgiiaaKCurveFenchel2
import Derived.Test.YtingjpcgehgiiaaKCurveFenchel3
import Derived.Test.YtingjpcgehgiiaaKCurveFenchel4
import Derived.Test.YtingjpcgehgiiaaKCurveFenchel5
section
namespace Go.Proofs.Ytingjpcgehgiiaa.Pr
open Go.RowKit Go.Proofs.YtingjpcgehgiiaaW.PrintWords Go.Proofs.YtingjpcgehgiiaaW.PrintLast Go.Proofs.YtingjpcgehgiiaaW.PrintMore
attribute [local go_sem] max2_int min2_int max_two min_two max_three min_three max_four min_four   -- for this text's walks alone
set_option linter.unusedVariables false
set_option linter.unusedSimpArgs false
mutual
def kimberlitelaw03_CurveFenchel.j0 : Nat → Int → Int → Int → Int → Int → Int → Int → Bool → Int → Int → List Int → Int → Int → List Int → Option (Bool)
 | 0, _, _, _, _, _, _, _, _, _, _, _, _, _, _ => none
 | k + 1, x2, x3, x9, x10, x11, x13, x15, x89, x602000, x602001, x602002, x603000, x603001, x603002 => if x89 = true then (some false) else ((kimberlitelaw03_at.f x602000 x602001 x602002 x3).bind fun bt614 => ((kimberlitelaw03_at.f x603000 x603001 x603002 x3).bind fun bt616 => (if bt614.2 = true then (if bt616.2 = true then (if (wrap64 (bt614.1 + bt616.1)) < x9 then (kimberlitelaw03_CurveFenchel.j1 k x2 x9 x10 x11 x13 x15 true x602000 x602001 x602002 x603000 x603001 x603002) else (if (wrap64 (bt614.1 + bt616.1)) = x9 then (kimberlitelaw03_CurveFenchel.j1 k x2 x9 x10 x11 x13 x15 (decide (x3 < x10)) x602000 x602001 x602002 x603000 x603001 x603002) else (kimberlitelaw03_CurveFenchel.j1 k x2 x9 x10 x11 x13 x15 false x602000 x602001 x602002 x603000 x603001 x603002))) else (kimberlitelaw03_CurveFenchel.j1 k x2 x9 x10 x11 x13 x15 false x602000 x602001 x602002 x603000 x603001 x603002)) else (kimberlitelaw03_CurveFenchel.j1 k x2 x9 x10 x11 x13 x15 false x602000 x602001 x602002 x603000 x603001 x603002))))
def kimberlitelaw03_CurveFenchel.j1 : Nat → Int → Int → Int → Int → Int → Int → Bool → Int → Int → List Int → Int → Int → List Int → Option (Bool)
 | 0, _, _, _, _, _, _, _, _, _, _, _, _, _ => none
 | k + 1, x2, x9, x10, x11, x13, x15, x124, x602000, x602001, x602002, x603000, x603001, x603002 => if x124 = true then (some false) else (if x11 > (-1048576) then ((kimberlitelaw03_greatest.f k x602000 x602001 x602002 (wrap64 (x11 - 1))).bind fun t618 => ((kimberlitelaw03_greatest.f k x603000 x603001 x603002 (wrap64 (1 - x11))).bind fun t619 => (if (wrap64 (t618 + t619)) = (wrap64 (-x9)) then ((kimberlitelaw03_greatest.f k x602000 x602001 x602002 x11).bind fun t620 => (if (wrap64 ((wrap64 (x11 * x10)) - x13)) = t620 then ((kimberlitelaw03_greatest.f k x602000 x602001 x602002 (wrap64 (x11 - 1))).bind fun t621 => (if (wrap64 ((wrap64 ((wrap64 (x11 - 1)) * x10)) - x13)) = t621 then ((kimberlitelaw03_greatest.f k x603000 x603001 x603002 (wrap64 (1 - x11))).bind fun t622 => (kimberlitelaw03_CurveFenchel.j2 k x2 x9 ((wrap64 ((wrap64 ((wrap64 (1 - x11)) * x10)) - x15)) == t622) x602000 x602001 x602002 x603000 x603001 x603002)) else (kimberlitelaw03_CurveFenchel.j2 k x2 x9 false x602000 x602001 x602002 x603000 x603001 x603002))) else (kimberlitelaw03_CurveFenchel.j2 k x2 x9 false x602000 x602001 x602002 x603000 x603001 x603002))) else (kimberlitelaw03_CurveFenchel.j2 k x2 x9 false x602000 x602001 x602002 x603000 x603001 x603002)))) else (kimberlitelaw03_CurveFenchel.j2 k x2 x9 false x602000 x602001 x602002 x603000 x603001 x603002))
def kimberlitelaw03_CurveFenchel.j2 : Nat → Int → Int → Bool → Int → Int → List Int → Int → Int → List Int → Option (Bool)
 | 0, _, _, _, _, _, _, _, _, _ => none
 | k + 1, x2, x9, x177, x602000, x602001, x602002, x603000, x603001, x603002 => if x177 = true then (some false) else (if x2 < (-1073741824) then ((kimberlitelaw03_alive.f).bind fun t623 => (some t623)) else (if x2 > 1073741824 then ((kimberlitelaw03_alive.f).bind fun t624 => (some t624)) else ((kimberlitelaw03_greatest.f k x602000 x602001 x602002 x2).bind fun t625 => ((kimberlitelaw03_greatest.f k x603000 x603001 x603002 (wrap64 (-x2))).bind fun t626 => (if (wrap64 (-(wrap64 (t625 + t626)))) ≤ x9 then ((kimberlitelaw03_alive.f).bind fun t627 => (some t627)) else (some false))))))
end
def kimberlitelaw03_CurveFenchel.f (k : Nat) (a0_0 : Int) (a0_1 : Int) (l0_2 : List Int) (a1_0 : Int) (a1_1 : Int) (l1_2 : List Int) (a2 : Int) (a3 : Int) : Option (Bool) := (curve_Meet.f k a0_0 a0_1 l0_2 a1_0 a1_1 l1_2).bind fun bt603 => (if bt603.2.2.2 = 0 then ((kimberlitelaw03_at.f a0_0 a0_1 l0_2 bt603.2.1).bind fun bt608 => ((kimberlitelaw03_at.f a1_0 a1_1 l1_2 bt603.2.1).bind fun bt610 => (if bt608.2 = true then (if bt610.2 = true then (if (wrap64 (bt608.1 + bt610.1)) = bt603.1 then (if bt603.2.2.1 < (-1048576) then (kimberlitelaw03_CurveFenchel.j0 k a2 a3 bt603.1 bt603.2.1 bt603.2.2.1 bt608.1 bt610.1 true a0_0 a0_1 l0_2 a1_0 a1_1 l1_2) else (if bt603.2.2.1 > 1048576 then (kimberlitelaw03_CurveFenchel.j0 k a2 a3 bt603.1 bt603.2.1 bt603.2.2.1 bt608.1 bt610.1 true a0_0 a0_1 l0_2 a1_0 a1_1 l1_2) else ((kimberlitelaw03_greatest.f k a0_0 a0_1 l0_2 bt603.2.2.1).bind fun t612 => ((kimberlitelaw03_greatest.f k a1_0 a1_1 l1_2 (wrap64 (-bt603.2.2.1))).bind fun t613 => (kimberlitelaw03_CurveFenchel.j0 k a2 a3 bt603.1 bt603.2.1 bt603.2.2.1 bt608.1 bt610.1 ((wrap64 (t612 + t613)) != (wrap64 (-bt603.1))) a0_0 a0_1 l0_2 a1_0 a1_1 l1_2))))) else (kimberlitelaw03_CurveFenchel.j0 k a2 a3 bt603.1 bt603.2.1 bt603.2.2.1 bt608.1 bt610.1 true a0_0 a0_1 l0_2 a1_0 a1_1 l1_2)) else (kimberlitelaw03_CurveFenchel.j0 k a2 a3 bt603.1 bt603.2.1 bt603.2.2.1 bt608.1 bt610.1 true a0_0 a0_1 l0_2 a1_0 a1_1 l1_2)) else (kimberlitelaw03_CurveFenchel.j0 k a2 a3 bt603.1 bt603.2.1 bt603.2.2.1 bt608.1 bt610.1 true a0_0 a0_1 l0_2 a1_0 a1_1 l1_2)))) else (if bt603.1 = 0 then (if bt603.2.1 = 0 then (if bt603.2.2.1 = 0 then ((kimberlitelaw03_alive.f).bind fun t607 => (some t607)) else (some false)) else (some false)) else (some false)))
theorem kimberlitelaw03_CurveFenchel.mono_l : ∀ k, (∀ y0 y1 y2 y3 y4 y5 y6 y7 y8 y9 y10 y11 y12 y13, LeO (kimberlitelaw03_CurveFenchel.j0 k y0 y1 y2 y3 y4 y5 y6 y7 y8 y9 y10 y11 y12 y13) (kimberlitelaw03_CurveFenchel.j0 (k + 1) y0 y1 y2 y3 y4 y5 y6 y7 y8 y9 y10 y11 y12 y13)) ∧ (∀ y0 y1 y2 y3 y4 y5 y6 y7 y8 y9 y10 y11 y12, LeO (kimberlitelaw03_CurveFenchel.j1 k y0 y1 y2 y3 y4 y5 y6 y7 y8 y9 y10 y11 y12) (kimberlitelaw03_CurveFenchel.j1 (k + 1) y0 y1 y2 y3 y4 y5 y6 y7 y8 y9 y10 y11 y12)) ∧ (∀ y0 y1 y2 y3 y4 y5 y6 y7 y8, LeO (kimberlitelaw03_CurveFenchel.j2 k y0 y1 y2 y3 y4 y5 y6 y7 y8) (kimberlitelaw03_CurveFenchel.j2 (k + 1) y0 y1 y2 y3 y4 y5 y6 y7 y8))
 | 0 => ⟨fun _ _ _ _ _ _ _ _ _ _ _ _ _ _ r h => by simp [kimberlitelaw03_CurveFenchel.j0] at h, fun _ _ _ _ _ _ _ _ _ _ _ _ _ r h => by simp [kimberlitelaw03_CurveFenchel.j1] at h, fun _ _ _ _ _ _ _ _ _ r h => by simp [kimberlitelaw03_CurveFenchel.j2] at h⟩
 | k + 1 => by
  obtain ⟨ih0, ih1, ih2⟩ := kimberlitelaw03_CurveFenchel.mono_l k
  refine ⟨?_, ?_, ?_⟩
  · intro y0 y1 y2 y3 y4 y5 y6 y7 y8 y9 y10 y11 y12 y13
    unfold kimberlitelaw03_CurveFenchel.j0
    repeat' first
    | (with_reducible exact ih0 _ _ _ _ _ _ _ _ _ _ _ _ _ _)
    | (with_reducible exact ih1 _ _ _ _ _ _ _ _ _ _ _ _ _)
    | (with_reducible exact ih2 _ _ _ _ _ _ _ _ _)
    | (with_reducible exact curve_Meet.mono _ _ _ _ _ _ _)
    | (with_reducible exact kimberlitelaw03_greatest.mono _ _ _ _ _)
    | (with_reducible exact LeO.refl _)
    | (with_reducible exact LeO.none _)
    | (with_reducible refine LeO.ite ?_ ?_)
    | (with_reducible refine LeO.bind ?_ (fun _ => ?_))
    | exact ih0 _ _ _ _ _ _ _ _ _ _ _ _ _ _
    | exact ih1 _ _ _ _ _ _ _ _ _ _ _ _ _
    | exact ih2 _ _ _ _ _ _ _ _ _
    | exact curve_Meet.mono _ _ _ _ _ _ _
    | exact kimberlitelaw03_greatest.mono _ _ _ _ _
    | exact LeO.none _
    | refine LeO.ite ?_ ?_
    | refine LeO.bind ?_ (fun _ => ?_)
  · intro y0 y1 y2 y3 y4 y5 y6 y7 y8 y9 y10 y11 y12
    unfold kimberlitelaw03_CurveFenchel.j1
    repeat' first
    | (with_reducible exact ih0 _ _ _ _ _ _ _ _ _ _ _ _ _ _)
    | (with_reducible exact ih1 _ _ _ _ _ _ _ _ _ _ _ _ _)
    | (with_reducible exact ih2 _ _ _ _ _ _ _ _ _)
    | (with_reducible exact curve_Meet.mono _ _ _ _ _ _ _)
    | (with_reducible exact kimberlitelaw03_greatest.mono _ _ _ _ _)
    | (with_reducible exact LeO.refl _)
    | (with_reducible exact LeO.none _)
    | (with_reducible refine LeO.ite ?_ ?_)
    | (with_reducible refine LeO.bind ?_ (fun _ => ?_))
    | exact ih0 _ _ _ _ _ _ _ _ _ _ _ _ _ _
    | exact ih1 _ _ _ _ _ _ _ _ _ _ _ _ _
    | exact ih2 _ _ _ _ _ _ _ _ _
    | exact curve_Meet.mono _ _ _ _ _ _ _
    | exact kimberlitelaw03_greatest.mono _ _ _ _ _
    | exact LeO.none _
    | refine LeO.ite ?_ ?_
    | refine LeO.bind ?_ (fun _ => ?_)
  · intro y0 y1 y2 y3 y4 y5 y6 y7 y8
    unfold kimberlitelaw03_CurveFenchel.j2
    repeat' first
    | (with_reducible exact ih0 _ _ _ _ _ _ _ _ _ _ _ _ _ _)
    | (with_reducible exact ih1 _ _ _ _ _ _ _ _ _ _ _ _ _)
    | (with_reducible exact ih2 _ _ _ _ _ _ _ _ _)
    | (with_reducible exact curve_Meet.mono _ _ _ _ _ _ _)
    | (with_reducible exact kimberlitelaw03_greatest.mono _ _ _ _ _)
    | (with_reducible exact LeO.refl _)
    | (with_reducible exact LeO.none _)
    | (with_reducible refine LeO.ite ?_ ?_)
    | (with_reducible refine LeO.bind ?_ (fun _ => ?_))
    | exact ih0 _ _ _ _ _ _ _ _ _ _ _ _ _ _
    | exact ih1 _ _ _ _ _ _ _ _ _ _ _ _ _
    | exact ih2 _ _ _ _ _ _ _ _ _
    | exact curve_Meet.mono _ _ _ _ _ _ _
    | exact kimberlitelaw03_greatest.mono _ _ _ _ _
    | exact LeO.none _
    | refine LeO.ite ?_ ?_
    | refine LeO.bind ?_ (fun _ => ?_)
theorem kimberlitelaw03_CurveFenchel.mono : ∀ a0 a1 a2 a3 a4 a5 a6 a7 k, LeO (kimberlitelaw03_CurveFenchel.f k a0 a1 a2 a3 a4 a5 a6 a7) (kimberlitelaw03_CurveFenchel.f (k + 1) a0 a1 a2 a3 a4 a5 a6 a7) := by
 intro a0 a1 a2 a3 a4 a5 a6 a7 k
 obtain ⟨ih0, ih1, ih2⟩ := kimberlitelaw03_CurveFenchel.mono_l k
 unfold kimberlitelaw03_CurveFenchel.f
 repeat' first
  | (with_reducible exact ih0 _ _ _ _ _ _ _ _ _ _ _ _ _ _)
  | (with_reducible exact ih1 _ _ _ _ _ _ _ _ _ _ _ _ _)
  | (with_reducible exact ih2 _ _ _ _ _ _ _ _ _)
  | (with_reducible exact curve_Meet.mono _ _ _ _ _ _ _)
  | (with_reducible exact kimberlitelaw03_greatest.mono _ _ _ _ _)
  | (with_reducible exact LeO.refl _)
  | (with_reducible exact LeO.none _)
  | (with_reducible refine LeO.ite ?_ ?_)
  | (with_reducible refine LeO.bind ?_ (fun _ => ?_))
  | exact ih0 _ _ _ _ _ _ _ _ _ _ _ _ _ _
  | exact ih1 _ _ _ _ _ _ _ _ _ _ _ _ _
  | exact ih2 _ _ _ _ _ _ _ _ _
  | exact curve_Meet.mono _ _ _ _ _ _ _
  | exact kimberlitelaw03_greatest.mono _ _ _ _ _
  | exact LeO.none _
  | refine LeO.ite ?_ ?_
  | refine LeO.bind ?_ (fun _ => ?_)
def kimberlitelaw03_CurveFenchel.T14 : Bool × List (List Nat × List Nat) := (true, [([], []), ([0], [0]), ([1], [1]), ([2], [2]), ([3, 2], [2, 3]), ([2, 4], [2, 4]), ([5, 2], [5]), ([6], [6]), ([6], [6]), ([7, 8, 6, 6], [6, 7, 8]), ([6], [6]), ([6], [6]), ([11, 6], [6, 11]), ([10, 12, 9, 6], [6, 10, 12]), ([9, 13, 6], [6, 9, 13]), ([14, 6], [6, 14]), ([6], [6]), ([15, 16, 6], [6, 15, 16]), ([6, 17], [6, 17]), ([18, 13], [18]), ([19, 19], [19]), ([19, 20], [19, 20]), ([21, 20, 0, 1, 2, 3, 4, 5, 6, 7, 8, 9, 10, 11, 12, 13, 14, 15, 16, 17, 18, 19, 20, 21], [21])])
def kimberlitelaw03_CurveFenchel.B14 : List Nat := [0, 1, 3, 7, 15, 31, 63, 127, 127, 511, 127, 127, 2175, 8191, 16383, 32767, 127, 131071, 262143, 524287, 1048575, 2097151, 4194303]
theorem kimberlitelaw03_CurveFenchel.tab14 : rtab .any (opsOf Try.f7 14) = kimberlitelaw03_CurveFenchel.T14 := by kernel_rfl
theorem kimberlitelaw03_CurveFenchel.bits14 : waitsOk kimberlitelaw03_CurveFenchel.T14.2 kimberlitelaw03_CurveFenchel.B14 = true := by kernel_rfl
set_option maxHeartbeats 8000000 in
set_option maxRecDepth 100000 in
theorem kimberlitelaw03_CurveFenchel.calls (k : Nat) (a0_0 : Int) (a0_1 : Int) (A0_2 : Option Addr) (c0_2 : Nat) (l0_2 : List Int) (a1_0 : Int) (a1_1 : Int) (A1_2 : Option Addr) (c1_2 : Nat) (l1_2 : List Int) (a2 : Int) (a3 : Int) (r : Bool) (w : World) (hr0_2 : Kd.C (Kd.int .i64) w A0_2 l0_2.length l0_2) (hc0_2 : l0_2.length ≤ c0_2) (hr1_2 : Kd.C (Kd.int .i64) w A1_2 l1_2.length l1_2) (hc1_2 : l1_2.length ≤ c1_2) (h : kimberlitelaw03_CurveFenchel.f k a0_0 a0_1 l0_2 a1_0 a1_1 l1_2 a2 a3 = some r) :
 Calls Try.prog 7 #[.agg #[.int .i64 a0_0, .int .i64 a0_1, .slice A0_2 l0_2.length c0_2], .agg #[.int .i64 a1_0, .int .i64 a1_1, .slice A1_2 l1_2.length c1_2], .int .i64 a2, .int .i64 a3] w fun e w' => e = .returned (.bool r) ∧ Below w.heap.size w w' := by
 have hu24 := Try.underlying24
 have HR0_2 := Aside0.mk hr0_2
 have HC0_2 := Aside0.mk hc0_2
 clear hr0_2 hc0_2
 have HR1_2 := Aside0.mk hr1_2
 have HC1_2 := Aside0.mk hc1_2
 clear hr1_2 hc1_2
 have HB := Aside0.mk (Below.refl w.heap.size w)
 have H : ((curve_Meet.f k a0_0 a0_1 l0_2 a1_0 a1_1 l1_2).bind fun bt603 => (if bt603.2.2.2 = 0 then ((kimberlitelaw03_at.f a0_0 a0_1 l0_2 bt603.2.1).bind fun bt608 => ((kimberlitelaw03_at.f a1_0 a1_1 l1_2 bt603.2.1).bind fun bt610 => (if bt608.2 = true then (if bt610.2 = true then (if (wrap64 (bt608.1 + bt610.1)) = bt603.1 then (if bt603.2.2.1 < (-1048576) then (kimberlitelaw03_CurveFenchel.j0 k a2 a3 bt603.1 bt603.2.1 bt603.2.2.1 bt608.1 bt610.1 true a0_0 a0_1 l0_2 a1_0 a1_1 l1_2) else (if bt603.2.2.1 > 1048576 then (kimberlitelaw03_CurveFenchel.j0 k a2 a3 bt603.1 bt603.2.1 bt603.2.2.1 bt608.1 bt610.1 true a0_0 a0_1 l0_2 a1_0 a1_1 l1_2) else ((kimberlitelaw03_greatest.f k a0_0 a0_1 l0_2 bt603.2.2.1).bind fun t612 => ((kimberlitelaw03_greatest.f k a1_0 a1_1 l1_2 (wrap64 (-bt603.2.2.1))).bind fun t613 => (kimberlitelaw03_CurveFenchel.j0 k a2 a3 bt603.1 bt603.2.1 bt603.2.2.1 bt608.1 bt610.1 ((wrap64 (t612 + t613)) != (wrap64 (-bt603.1))) a0_0 a0_1 l0_2 a1_0 a1_1 l1_2))))) else (kimberlitelaw03_CurveFenchel.j0 k a2 a3 bt603.1 bt603.2.1 bt603.2.2.1 bt608.1 bt610.1 true a0_0 a0_1 l0_2 a1_0 a1_1 l1_2)) else (kimberlitelaw03_CurveFenchel.j0 k a2 a3 bt603.1 bt603.2.1 bt603.2.2.1 bt608.1 bt610.1 true a0_0 a0_1 l0_2 a1_0 a1_1 l1_2)) else (kimberlitelaw03_CurveFenchel.j0 k a2 a3 bt603.1 bt603.2.1 bt603.2.2.1 bt608.1 bt610.1 true a0_0 a0_1 l0_2 a1_0 a1_1 l1_2)))) else (if bt603.1 = 0 then (if bt603.2.1 = 0 then (if bt603.2.2.1 = 0 then ((kimberlitelaw03_alive.f).bind fun t607 => (some t607)) else (some false)) else (some false)) else (some false)))) = some r := h
 clear h
 replace H := Option.bind_eq_some_iff.mp H
 obtain ⟨⟨t603, t604, t605, t606⟩, A50, H⟩ := H
 replace H : (if t606 = 0 then ((kimberlitelaw03_at.f a0_0 a0_1 l0_2 t604).bind fun bt608 => ((kimberlitelaw03_at.f a1_0 a1_1 l1_2 t604).bind fun bt610 => (if bt608.2 = true then (if bt610.2 = true then (if (wrap64 (bt608.1 + bt610.1)) = t603 then (if t605 < (-1048576) then (kimberlitelaw03_CurveFenchel.j0 k a2 a3 t603 t604 t605 bt608.1 bt610.1 true a0_0 a0_1 l0_2 a1_0 a1_1 l1_2) else (if t605 > 1048576 then (kimberlitelaw03_CurveFenchel.j0 k a2 a3 t603 t604 t605 bt608.1 bt610.1 true a0_0 a0_1 l0_2 a1_0 a1_1 l1_2) else ((kimberlitelaw03_greatest.f k a0_0 a0_1 l0_2 t605).bind fun t612 => ((kimberlitelaw03_greatest.f k a1_0 a1_1 l1_2 (wrap64 (-t605))).bind fun t613 => (kimberlitelaw03_CurveFenchel.j0 k a2 a3 t603 t604 t605 bt608.1 bt610.1 ((wrap64 (t612 + t613)) != (wrap64 (-t603))) a0_0 a0_1 l0_2 a1_0 a1_1 l1_2))))) else (kimberlitelaw03_CurveFenchel.j0 k a2 a3 t603 t604 t605 bt608.1 bt610.1 true a0_0 a0_1 l0_2 a1_0 a1_1 l1_2)) else (kimberlitelaw03_CurveFenchel.j0 k a2 a3 t603 t604 t605 bt608.1 bt610.1 true a0_0 a0_1 l0_2 a1_0 a1_1 l1_2)) else (kimberlitelaw03_CurveFenchel.j0 k a2 a3 t603 t604 t605 bt608.1 bt610.1 true a0_0 a0_1 l0_2 a1_0 a1_1 l1_2)))) else (if t603 = 0 then (if t604 = 0 then (if t605 = 0 then ((kimberlitelaw03_alive.f).bind fun t607 => (some t607)) else (some false)) else (some false)) else (some false))) = some r := H
 have A5 := Aside0.mk A50
 clear A50
 by_cases c6 : t606 = 0
 · rw [if_pos c6] at H
   have c6b0 : (t606 == 0) = true := beq_iff_eq.mpr c6
   have c6b1 : (t606 != 0) = false := bne_eq_false_iff_eq.mpr c6
   clear c6
   replace H := Option.bind_eq_some_iff.mp H
   obtain ⟨⟨t608, t609⟩, A70, H⟩ := H
   replace H : ((kimberlitelaw03_at.f a1_0 a1_1 l1_2 t604).bind fun bt610 => (if t609 = true then (if bt610.2 = true then (if (wrap64 (t608 + bt610.1)) = t603 then (if t605 < (-1048576) then (kimberlitelaw03_CurveFenchel.j0 k a2 a3 t603 t604 t605 t608 bt610.1 true a0_0 a0_1 l0_2 a1_0 a1_1 l1_2) else (if t605 > 1048576 then (kimberlitelaw03_CurveFenchel.j0 k a2 a3 t603 t604 t605 t608 bt610.1 true a0_0 a0_1 l0_2 a1_0 a1_1 l1_2) else ((kimberlitelaw03_greatest.f k a0_0 a0_1 l0_2 t605).bind fun t612 => ((kimberlitelaw03_greatest.f k a1_0 a1_1 l1_2 (wrap64 (-t605))).bind fun t613 => (kimberlitelaw03_CurveFenchel.j0 k a2 a3 t603 t604 t605 t608 bt610.1 ((wrap64 (t612 + t613)) != (wrap64 (-t603))) a0_0 a0_1 l0_2 a1_0 a1_1 l1_2))))) else (kimberlitelaw03_CurveFenchel.j0 k a2 a3 t603 t604 t605 t608 bt610.1 true a0_0 a0_1 l0_2 a1_0 a1_1 l1_2)) else (kimberlitelaw03_CurveFenchel.j0 k a2 a3 t603 t604 t605 t608 bt610.1 true a0_0 a0_1 l0_2 a1_0 a1_1 l1_2)) else (kimberlitelaw03_CurveFenchel.j0 k a2 a3 t603 t604 t605 t608 bt610.1 true a0_0 a0_1 l0_2 a1_0 a1_1 l1_2))) = some r := H
   have A7 := Aside0.mk A70
   clear A70
   replace H := Option.bind_eq_some_iff.mp H
   obtain ⟨⟨t610, t611⟩, A80, H⟩ := H
   replace H : (if t609 = true then (if t611 = true then (if (wrap64 (t608 + t610)) = t603 then (if t605 < (-1048576) then (kimberlitelaw03_CurveFenchel.j0 k a2 a3 t603 t604 t605 t608 t610 true a0_0 a0_1 l0_2 a1_0 a1_1 l1_2) else (if t605 > 1048576 then (kimberlitelaw03_CurveFenchel.j0 k a2 a3 t603 t604 t605 t608 t610 true a0_0 a0_1 l0_2 a1_0 a1_1 l1_2) else ((kimberlitelaw03_greatest.f k a0_0 a0_1 l0_2 t605).bind fun t612 => ((kimberlitelaw03_greatest.f k a1_0 a1_1 l1_2 (wrap64 (-t605))).bind fun t613 => (kimberlitelaw03_CurveFenchel.j0 k a2 a3 t603 t604 t605 t608 t610 ((wrap64 (t612 + t613)) != (wrap64 (-t603))) a0_0 a0_1 l0_2 a1_0 a1_1 l1_2))))) else (kimberlitelaw03_CurveFenchel.j0 k a2 a3 t603 t604 t605 t608 t610 true a0_0 a0_1 l0_2 a1_0 a1_1 l1_2)) else (kimberlitelaw03_CurveFenchel.j0 k a2 a3 t603 t604 t605 t608 t610 true a0_0 a0_1 l0_2 a1_0 a1_1 l1_2)) else (kimberlitelaw03_CurveFenchel.j0 k a2 a3 t603 t604 t605 t608 t610 true a0_0 a0_1 l0_2 a1_0 a1_1 l1_2)) = some r := H
   have A8 := Aside0.mk A80
   clear A80
   have HC9 := Aside0.mk H
   clear H
   go_enter Try.func7, Try.ntmps7
   go_upto_region 6 with (first | ((with_reducible refine gate_dst (N := 4) rfl ?_); refine box_event ?hg (N := 4) ?hd (cs := #[.int .i64 a0_0, .int .i64 a0_1, .slice A0_2 l0_2.length c0_2]) (t := 24) ?hr ?_; (case hd => rfl); (case hg => rfl); (case hr => first | (go_simp; done) | (go_simp; rfl)); intro gb601 hg w10 hbox hb; have n0_ := Aside0.mk (below_step (nC HB) hb); have n1_ := Aside0.mk (hbox); have n2_ := Aside0.mk ((by rw [hg]; exact (below_size (nC HB)) : w.heap.size ≤ gb601)); have n3_ := Aside0.mk ((by rw [hg]; exact (below_size (nC HB)) : w.heap.size ≤ gb601)); clear HB; have HB := n0_; have BK601 := n1_; have GW601 := n2_; have GE601 := n3_; clear n0_ n1_ n2_ n3_; clear hb hbox hg) | ((with_reducible refine gate_dst (N := 5) rfl ?_); refine box_event ?hg (N := 5) ?hd (cs := #[.int .i64 a1_0, .int .i64 a1_1, .slice A1_2 l1_2.length c1_2]) (t := 24) ?hr ?_; (case hd => rfl); (case hg => rfl); (case hr => first | (go_simp; done) | (go_simp; rfl)); intro gb602 hg w11 hbox hb; have n0_ := Aside0.mk (nB BK601 hb); have n1_ := Aside0.mk (below_step (nC HB) hb); have n2_ := Aside0.mk (hbox); have n3_ := Aside0.mk ((by rw [hg]; exact (below_size (nC HB)) : w.heap.size ≤ gb602)); have n4_ := Aside0.mk ((by rw [hg]; exact (below_size (nC HB)) : w.heap.size ≤ gb602)); have n5_ := Aside0.mk ((by rw [hg]; exact Nat.ne_of_lt (blk_lt (g := gb601) (o := .cells #[.int .i64 a0_0, .int .i64 a0_1, .slice A0_2 l0_2.length c0_2] 24 (0, 0)) (nK BK601)) : gb601 ≠ gb602)); have n6_ := Aside0.mk ((by rw [hg]; exact Nat.ne_of_gt (blk_lt (g := gb601) (o := .cells #[.int .i64 a0_0, .int .i64 a0_1, .slice A0_2 l0_2.length c0_2] 24 (0, 0)) (nK BK601)) : gb602 ≠ gb601)); clear BK601; clear HB; have BK601 := n0_; have HB := n1_; have BK602 := n2_; have GW602 := n3_; have GE602 := n4_; have NB601_602 := n5_; have NB602_601 := n6_; clear n0_ n1_ n2_ n3_ n4_ n5_ n6_; clear hb hbox hg; have hnb12 := NB601_602.out; have hnc12 := NB602_601.out; have hcz13_0 : w11.cell? ⟨gb601, 0, none⟩ = some (.int .i64 a0_0) := (blk_cell BK601.out 0).trans rfl; have hcz13_1 : w11.cell? ⟨gb601, 1, none⟩ = some (.int .i64 a0_1) := (blk_cell BK601.out 1).trans rfl; have hcz13_2 : w11.cell? ⟨gb601, 2, none⟩ = some (.slice A0_2 l0_2.length c0_2) := (blk_cell BK601.out 2).trans rfl; have hfz13_0 := blk_frozen BK601.out 0; have hfz13_1 := blk_frozen BK601.out 1; have hfz13_2 := blk_frozen BK601.out 2; have hcz14_0 : w11.cell? ⟨gb602, 0, none⟩ = some (.int .i64 a1_0) := (blk_cell BK602.out 0).trans rfl; have hcz14_1 : w11.cell? ⟨gb602, 1, none⟩ = some (.int .i64 a1_1) := (blk_cell BK602.out 1).trans rfl; have hcz14_2 : w11.cell? ⟨gb602, 2, none⟩ = some (.slice A1_2 l1_2.length c1_2) := (blk_cell BK602.out 2).trans rfl; have hfz14_0 := blk_frozen BK602.out 0; have hfz14_1 := blk_frozen BK602.out 1; have hfz14_2 := blk_frozen BK602.out 2) | ((with_reducible refine gate_callee (f := 25) rfl ?_); refine goesL_ (some 24) rfl rfl Try.func25 (by kernel_rfl) rfl #[.agg #[.int .i64 a0_0, .int .i64 a0_1, .slice A0_2 l0_2.length c0_2], .agg #[.int .i64 a1_0, .int .i64 a1_1, .slice A1_2 l1_2.length c1_2]] rfl (by (try simp only [List.map_toArray, List.map_cons, List.map_nil]); first | done | rfl | (simp only [List.length_drop, List.length_take]; rfl)) ?_; (with_reducible refine (curve_Meet.calls k a0_0 a0_1 _ _ l0_2 a1_0 a1_1 _ _ l1_2 t603 t604 t605 t606 _ ?side1 ?side2 ?side3 ?side4 A5.out).mono ?_); (case side1 => repeat (first | exact (Kd.C_below HR0_2.out HB.out) | (with_reducible refine Kd.C_alloc ?_ _) | (with_reducible refine Kd.C_drewN ?_ _) | (with_reducible refine Kd.C_drew ?_))); (case side2 => exact HC0_2.out); (case side3 => repeat (first | exact (Kd.C_below HR1_2.out HB.out) | (with_reducible refine Kd.C_alloc ?_ _) | (with_reducible refine Kd.C_drewN ?_ _) | (with_reducible refine Kd.C_drew ?_))); (case side4 => exact HC1_2.out); rintro e w15 ⟨rfl, hb⟩; refine ⟨_, rfl, ?_⟩; have n0_ := Aside0.mk (nB BK601 hb); have n1_ := Aside0.mk (nB BK602 hb); have n2_ := Aside0.mk (below_step (nC HB) hb); clear BK601; clear BK602; clear HB; have BK601 := n0_; have BK602 := n1_; have HB := n2_; clear n0_ n1_ n2_; (try clear hb); (try clear hb2); (try clear hk); (try clear hi); have hcz16_0 : w15.cell? ⟨gb601, 0, none⟩ = some (.int .i64 a0_0) := (blk_cell BK601.out 0).trans rfl; have hcz16_1 : w15.cell? ⟨gb601, 1, none⟩ = some (.int .i64 a0_1) := (blk_cell BK601.out 1).trans rfl; have hcz16_2 : w15.cell? ⟨gb601, 2, none⟩ = some (.slice A0_2 l0_2.length c0_2) := (blk_cell BK601.out 2).trans rfl; have hfz16_0 := blk_frozen BK601.out 0; have hfz16_1 := blk_frozen BK601.out 1; have hfz16_2 := blk_frozen BK601.out 2) | ((with_reducible refine gate_callee (f := 18) rfl ?_); refine goesL_ (some 47) rfl rfl Try.func18 (by kernel_rfl) rfl #[.agg #[.int .i64 a0_0, .int .i64 a0_1, .slice A0_2 l0_2.length c0_2], .int .i64 t604] rfl (by (try simp only [List.map_toArray, List.map_cons, List.map_nil]); first | done | rfl | (simp only [List.length_drop, List.length_take]; rfl)) ?_; (with_reducible refine (kimberlitelaw03_at.calls a0_0 a0_1 _ _ l0_2 t604 t608 t609 _ ?side1 ?side2 A7.out).mono ?_); (case side1 => repeat (first | exact (Kd.C_below HR0_2.out HB.out) | (with_reducible refine Kd.C_alloc ?_ _) | (with_reducible refine Kd.C_drewN ?_ _) | (with_reducible refine Kd.C_drew ?_))); (case side2 => exact HC0_2.out); rintro e w17 ⟨rfl, hb⟩; refine ⟨_, rfl, ?_⟩; have n0_ := Aside0.mk (nB BK601 hb); have n1_ := Aside0.mk (nB BK602 hb); have n2_ := Aside0.mk (below_step (nC HB) hb); clear BK601; clear BK602; clear HB; have BK601 := n0_; have BK602 := n1_; have HB := n2_; clear n0_ n1_ n2_; (try clear hb); (try clear hb2); (try clear hk); (try clear hi); have hcz18_0 : w17.cell? ⟨gb602, 0, none⟩ = some (.int .i64 a1_0) := (blk_cell BK602.out 0).trans rfl; have hcz18_1 : w17.cell? ⟨gb602, 1, none⟩ = some (.int .i64 a1_1) := (blk_cell BK602.out 1).trans rfl; have hcz18_2 : w17.cell? ⟨gb602, 2, none⟩ = some (.slice A1_2 l1_2.length c1_2) := (blk_cell BK602.out 2).trans rfl; have hfz18_0 := blk_frozen BK602.out 0; have hfz18_1 := blk_frozen BK602.out 1; have hfz18_2 := blk_frozen BK602.out 2) | ((with_reducible refine gate_callee (f := 18) rfl ?_); refine goesL_ (some 53) rfl rfl Try.func18 (by kernel_rfl) rfl #[.agg #[.int .i64 a1_0, .int .i64 a1_1, .slice A1_2 l1_2.length c1_2], .int .i64 t604] rfl (by (try simp only [List.map_toArray, List.map_cons, List.map_nil]); first | done | rfl | (simp only [List.length_drop, List.length_take]; rfl)) ?_; (with_reducible refine (kimberlitelaw03_at.calls a1_0 a1_1 _ _ l1_2 t604 t610 t611 _ ?side1 ?side2 A8.out).mono ?_); (case side1 => repeat (first | exact (Kd.C_below HR1_2.out HB.out) | (with_reducible refine Kd.C_alloc ?_ _) | (with_reducible refine Kd.C_drewN ?_ _) | (with_reducible refine Kd.C_drew ?_))); (case side2 => exact HC1_2.out); rintro e w19 ⟨rfl, hb⟩; refine ⟨_, rfl, ?_⟩; have n0_ := Aside0.mk (nB BK601 hb); have n1_ := Aside0.mk (nB BK602 hb); have n2_ := Aside0.mk (below_step (nC HB) hb); clear BK601; clear BK602; clear HB; have BK601 := n0_; have BK602 := n1_; have HB := n2_; clear n0_ n1_ n2_; (try clear hb); (try clear hb2); (try clear hk); (try clear hi)))
   (try simp only [Act.put, List.setIfInBounds_toArray, List.set_cons_zero, List.set_cons_succ])
   go_cut [89] (fun v89 wc => ∃ (kq : Nat) (x89_8 : Bool), v89 = .bool x89_8 ∧ Aside0 (kimberlitelaw03_CurveFenchel.j0 kq a2 a3 t603 t604 t605 t608 t610 x89_8 a0_0 a0_1 l0_2 a1_0 a1_1 l1_2 = some r) ∧ Aside0 (kq ≤ k) ∧ Aside0 (wc.heap[gb601]? = some (.cells #[.int .i64 a0_0, .int .i64 a0_1, (.slice A0_2 l0_2.length c0_2)] 24 (0, 0))) ∧ Aside0 (wc.heap[gb602]? = some (.cells #[.int .i64 a1_0, .int .i64 a1_1, (.slice A1_2 l1_2.length c1_2)] 24 (0, 0))) ∧ Aside0 (Below w.heap.size w wc))
   case first =>
    as_aux_lemma =>
    have H := HC9.out
    clear HC9
    by_cases c20 : t609 = true
    · subst c20
      have H1 : (if t611 = true then (if (wrap64 (t608 + t610)) = t603 then (if t605 < (-1048576) then (kimberlitelaw03_CurveFenchel.j0 k a2 a3 t603 t604 t605 t608 t610 true a0_0 a0_1 l0_2 a1_0 a1_1 l1_2) else (if t605 > 1048576 then (kimberlitelaw03_CurveFenchel.j0 k a2 a3 t603 t604 t605 t608 t610 true a0_0 a0_1 l0_2 a1_0 a1_1 l1_2) else ((kimberlitelaw03_greatest.f k a0_0 a0_1 l0_2 t605).bind fun t612 => ((kimberlitelaw03_greatest.f k a1_0 a1_1 l1_2 (wrap64 (-t605))).bind fun t613 => (kimberlitelaw03_CurveFenchel.j0 k a2 a3 t603 t604 t605 t608 t610 ((wrap64 (t612 + t613)) != (wrap64 (-t603))) a0_0 a0_1 l0_2 a1_0 a1_1 l1_2))))) else (kimberlitelaw03_CurveFenchel.j0 k a2 a3 t603 t604 t605 t608 t610 true a0_0 a0_1 l0_2 a1_0 a1_1 l1_2)) else (kimberlitelaw03_CurveFenchel.j0 k a2 a3 t603 t604 t605 t608 t610 true a0_0 a0_1 l0_2 a1_0 a1_1 l1_2)) = some r := by rw [if_pos rfl] at H; exact H
      clear H
      have H := H1
      clear H1
      by_cases c21 : t611 = true
      · subst c21
        have H1 : (if (wrap64 (t608 + t610)) = t603 then (if t605 < (-1048576) then (kimberlitelaw03_CurveFenchel.j0 k a2 a3 t603 t604 t605 t608 t610 true a0_0 a0_1 l0_2 a1_0 a1_1 l1_2) else (if t605 > 1048576 then (kimberlitelaw03_CurveFenchel.j0 k a2 a3 t603 t604 t605 t608 t610 true a0_0 a0_1 l0_2 a1_0 a1_1 l1_2) else ((kimberlitelaw03_greatest.f k a0_0 a0_1 l0_2 t605).bind fun t612 => ((kimberlitelaw03_greatest.f k a1_0 a1_1 l1_2 (wrap64 (-t605))).bind fun t613 => (kimberlitelaw03_CurveFenchel.j0 k a2 a3 t603 t604 t605 t608 t610 ((wrap64 (t612 + t613)) != (wrap64 (-t603))) a0_0 a0_1 l0_2 a1_0 a1_1 l1_2))))) else (kimberlitelaw03_CurveFenchel.j0 k a2 a3 t603 t604 t605 t608 t610 true a0_0 a0_1 l0_2 a1_0 a1_1 l1_2)) = some r := by rw [if_pos rfl] at H; exact H
        clear H
        have H := H1
        clear H1
        by_cases c22 : (wrap64 (t608 + t610)) = t603
        · rw [if_pos c22] at H
          have c22b0 : ((wrap64 (t608 + t610)) == t603) = true := beq_iff_eq.mpr c22
          have c22b1 : ((wrap64 (t608 + t610)) != t603) = false := bne_eq_false_iff_eq.mpr c22
          clear c22
          (first | rw [c22b0] | (simp only [i64_w, i32_w]; rw [c22b0]) | skip)
          by_cases c23 : t605 < (-1048576)
          · rw [if_pos c23] at H
            have c23b0 : decide (t605 < (-1048576)) = true := decide_eq_true c23
            clear c23
            have H' := Aside0.mk H
            clear H
            try go_wp2
            have mixed_ : Try.prog.follows .mixedOrders = true := by kernel_rfl
            refine wp_region_bel mixed_ (by kernel_rfl) ?_
            repeat (go_big_quiet_step (fail))
            refine wpQuiet_nil ?_
            intro wq hw'
            obtain ⟨pq, hw''⟩ := hw'
            have hq := Bel.h pq
            rw [← hw''] at hq
            clear hw'' pq
            (try simp only [i64_w, i32_w])
            have n0_ := Aside0.mk (blk_below BK601.out hq)
            have n1_ := Aside0.mk (blk_below BK602.out hq)
            have n2_ := Aside0.mk (below_step HB.out hq)
            clear hq BK601 BK602 HB
            have BK601 := n0_
            have BK602 := n1_
            have HB := n2_
            clear n0_ n1_ n2_
            try go_wp2
            go_meet
            case rel => exact ⟨_, (true), (by first | rfl | (simp; done) | (simp [*]; done)), H', ⟨by first | omega | exact Nat.le_refl _⟩, ⟨nK BK601⟩, ⟨nK BK602⟩, ⟨nC HB⟩⟩
          · rw [if_neg c23] at H
            have c23b0 : decide (t605 < (-1048576)) = false := decide_eq_false c23
            clear c23
            by_cases c25 : t605 > 1048576
            · rw [if_pos c25] at H
              have c25b0 : decide (1048576 < t605) = true := decide_eq_true c25
              clear c25
              have H' := Aside0.mk H
              clear H
              try go_wp2
              have mixed_ : Try.prog.follows .mixedOrders = true := by kernel_rfl
              refine wp_region_bel mixed_ (by kernel_rfl) ?_
              repeat (go_big_quiet_step (fail))
              refine wpQuiet_nil ?_
              intro wq hw'
              obtain ⟨pq, hw''⟩ := hw'
              have hq := Bel.h pq
              rw [← hw''] at hq
              clear hw'' pq
              (try simp only [i64_w, i32_w])
              have n0_ := Aside0.mk (blk_below BK601.out hq)
              have n1_ := Aside0.mk (blk_below BK602.out hq)
              have n2_ := Aside0.mk (below_step HB.out hq)
              clear hq BK601 BK602 HB
              have BK601 := n0_
              have BK602 := n1_
              have HB := n2_
              clear n0_ n1_ n2_
              try go_wp2
              go_meet
              case rel => exact ⟨_, (true), (by first | rfl | (simp; done) | (simp [*]; done)), H', ⟨by first | omega | exact Nat.le_refl _⟩, ⟨nK BK601⟩, ⟨nK BK602⟩, ⟨nC HB⟩⟩
            · rw [if_neg c25] at H
              have c25b0 : decide (1048576 < t605) = false := decide_eq_false c25
              clear c25
              replace H := Option.bind_eq_some_iff.mp H
              obtain ⟨t612, A270, H⟩ := H
              replace H : ((kimberlitelaw03_greatest.f k a1_0 a1_1 l1_2 (wrap64 (-t605))).bind fun t613 => (kimberlitelaw03_CurveFenchel.j0 k a2 a3 t603 t604 t605 t608 t610 ((wrap64 (t612 + t613)) != (wrap64 (-t603))) a0_0 a0_1 l0_2 a1_0 a1_1 l1_2)) = some r := H
              have A27 := Aside0.mk A270
              clear A270
              replace H := Option.bind_eq_some_iff.mp H
              obtain ⟨t613, A280, H⟩ := H
              replace H : (kimberlitelaw03_CurveFenchel.j0 k a2 a3 t603 t604 t605 t608 t610 ((wrap64 (t612 + t613)) != (wrap64 (-t603))) a0_0 a0_1 l0_2 a1_0 a1_1 l1_2) = some r := H
              have A28 := Aside0.mk A280
              clear A280
              have H' := Aside0.mk H
              clear H
              try go_wp2
              have gz0_ : ∀ p : Bel w19, p.W.cell? ⟨gb601, 0, none⟩ = some (.int .i64 a0_0) := Bel.cell ((blk_cell BK601.out 0).trans rfl)
              have gz1_ : ∀ p : Bel w19, p.W.cell? ⟨gb601, 1, none⟩ = some (.int .i64 a0_1) := Bel.cell ((blk_cell BK601.out 1).trans rfl)
              have gz2_ : ∀ p : Bel w19, p.W.cell? ⟨gb601, 2, none⟩ = some (.slice A0_2 l0_2.length c0_2) := Bel.cell ((blk_cell BK601.out 2).trans rfl)
              have gz3_ : ∀ p : Bel w19, p.W.cell? ⟨gb602, 0, none⟩ = some (.int .i64 a1_0) := Bel.cell ((blk_cell BK602.out 0).trans rfl)
              have gz4_ : ∀ p : Bel w19, p.W.cell? ⟨gb602, 1, none⟩ = some (.int .i64 a1_1) := Bel.cell ((blk_cell BK602.out 1).trans rfl)
              have gz5_ : ∀ p : Bel w19, p.W.cell? ⟨gb602, 2, none⟩ = some (.slice A1_2 l1_2.length c1_2) := Bel.cell ((blk_cell BK602.out 2).trans rfl)
              have gc0_ := fun p_ : Bel w19 => Calls.bel_of (p := p_) (kimberlitelaw03_greatest.calls k a0_0 a0_1 _ _ l0_2 t605 t612 _ (Kd.C_below (Kd.C_below HR0_2.out HB.out) (Bel.h p_)) HC0_2.out A27.out)
              have gc1_ := fun p_ : Bel w19 => Calls.bel_of (p := p_) (kimberlitelaw03_greatest.calls k a1_0 a1_1 _ _ l1_2 (wrap64 (-t605)) t613 _ (Kd.C_below (Kd.C_below HR1_2.out HB.out) (Bel.h p_)) HC1_2.out A28.out)
              have mixed_ : Try.prog.follows .mixedOrders = true := by kernel_rfl
              refine wp_region_bel mixed_ (by kernel_rfl) ?_
              repeat (go_big_quiet_step (fail))
              go_big_quiet_step ((go_at_call 21; with_reducible exact gc0_ _))
              repeat (go_big_quiet_step (fail))
              go_big_quiet_step ((go_at_call 21; with_reducible exact gc1_ _))
              repeat (go_big_quiet_step (fail))
              refine wpQuiet_nil ?_
              intro wq hw'
              obtain ⟨pq, hw''⟩ := hw'
              have hq := Bel.h pq
              rw [← hw''] at hq
              clear hw'' pq
              clear gc0_
              clear gc1_
              (try simp only [i64_w, i32_w])
              clear gz0_ gz1_ gz2_ gz3_ gz4_ gz5_
              have n0_ := Aside0.mk (blk_below BK601.out hq)
              have n1_ := Aside0.mk (blk_below BK602.out hq)
              have n2_ := Aside0.mk (below_step HB.out hq)
              clear hq BK601 BK602 HB
              have BK601 := n0_
              have BK602 := n1_
              have HB := n2_
              clear n0_ n1_ n2_
              try go_wp2
              go_meet
              case rel => exact ⟨_, (((wrap64 (t612 + t613)) != (wrap64 (-t603)))), (by first | rfl | (simp; done) | (simp [*]; done)), H', ⟨by first | omega | exact Nat.le_refl _⟩, ⟨nK BK601⟩, ⟨nK BK602⟩, ⟨nC HB⟩⟩
        · rw [if_neg c22] at H
          have c22b0 : ((wrap64 (t608 + t610)) == t603) = false := beq_eq_false_iff_ne.mpr c22
          have c22b1 : ((wrap64 (t608 + t610)) != t603) = true := bne_iff_ne.mpr c22
          (first | rw [c22b0] | (simp only [i64_w, i32_w]; rw [c22b0]) | skip)
          have H' := Aside0.mk H
          clear H
          try go_wp2
          have mixed_ : Try.prog.follows .mixedOrders = true := by kernel_rfl
          refine wp_region_bel mixed_ (by kernel_rfl) ?_
          repeat (go_big_quiet_step (fail))
          refine wpQuiet_nil ?_
          intro wq hw'
          obtain ⟨pq, hw''⟩ := hw'
          have hq := Bel.h pq
          rw [← hw''] at hq
          clear hw'' pq
          (try simp only [i64_w, i32_w])
          have n0_ := Aside0.mk (blk_below BK601.out hq)
          have n1_ := Aside0.mk (blk_below BK602.out hq)
          have n2_ := Aside0.mk (below_step HB.out hq)
          clear hq BK601 BK602 HB
          have BK601 := n0_
          have BK602 := n1_
          have HB := n2_
          clear n0_ n1_ n2_
          try go_wp2
          go_meet
          case rel => exact ⟨_, (true), (by first | rfl | (simp; done) | (simp [*]; done)), H', ⟨by first | omega | exact Nat.le_refl _⟩, ⟨nK BK601⟩, ⟨nK BK602⟩, ⟨nC HB⟩⟩
      · replace c21 := Bool.eq_false_iff.mpr c21
        subst c21
        have H1 : (kimberlitelaw03_CurveFenchel.j0 k a2 a3 t603 t604 t605 t608 t610 true a0_0 a0_1 l0_2 a1_0 a1_1 l1_2) = some r := by rw [if_neg (show ¬ (false = true) by decide)] at H; exact H
        clear H
        have H := H1
        clear H1
        have H' := Aside0.mk H
        clear H
        try go_wp2
        have mixed_ : Try.prog.follows .mixedOrders = true := by kernel_rfl
        refine wp_region_bel mixed_ (by kernel_rfl) ?_
        repeat (go_big_quiet_step (fail))
        refine wpQuiet_nil ?_
        intro wq hw'
        obtain ⟨pq, hw''⟩ := hw'
        have hq := Bel.h pq
        rw [← hw''] at hq
        clear hw'' pq
        (try simp only [i64_w, i32_w])
        have n0_ := Aside0.mk (blk_below BK601.out hq)
        have n1_ := Aside0.mk (blk_below BK602.out hq)
        have n2_ := Aside0.mk (below_step HB.out hq)
        clear hq BK601 BK602 HB
        have BK601 := n0_
        have BK602 := n1_
        have HB := n2_
        clear n0_ n1_ n2_
        try go_wp2
        go_meet
        case rel => exact ⟨_, (true), (by first | rfl | (simp; done) | (simp [*]; done)), H', ⟨by first | omega | exact Nat.le_refl _⟩, ⟨nK BK601⟩, ⟨nK BK602⟩, ⟨nC HB⟩⟩
    · replace c20 := Bool.eq_false_iff.mpr c20
      subst c20
      have H1 : (kimberlitelaw03_CurveFenchel.j0 k a2 a3 t603 t604 t605 t608 t610 true a0_0 a0_1 l0_2 a1_0 a1_1 l1_2) = some r := by rw [if_neg (show ¬ (false = true) by decide)] at H; exact H
      clear H
      have H := H1
      clear H1
      have H' := Aside0.mk H
      clear H
      try go_wp2
      have mixed_ : Try.prog.follows .mixedOrders = true := by kernel_rfl
      refine wp_region_bel mixed_ (by kernel_rfl) ?_
      repeat (go_big_quiet_step (fail))
      refine wpQuiet_nil ?_
      intro wq hw'
      obtain ⟨pq, hw''⟩ := hw'
      have hq := Bel.h pq
      rw [← hw''] at hq
      clear hw'' pq
      (try simp only [i64_w, i32_w])
      have n0_ := Aside0.mk (blk_below BK601.out hq)
      have n1_ := Aside0.mk (blk_below BK602.out hq)
      have n2_ := Aside0.mk (below_step HB.out hq)
      clear hq BK601 BK602 HB
      have BK601 := n0_
      have BK602 := n1_
      have HB := n2_
      clear n0_ n1_ n2_
      try go_wp2
      go_meet
      case rel => exact ⟨_, (true), (by first | rfl | (simp; done) | (simp [*]; done)), H', ⟨by first | omega | exact Nat.le_refl _⟩, ⟨nK BK601⟩, ⟨nK BK602⟩, ⟨nC HB⟩⟩
   case rest =>
    as_aux_lemma =>
    clear HC9
    try clear c2
    try clear p2
    try clear c20
    try clear c21
    obtain ⟨kq, x89_8, rfl, HA, HJ8, BK601, BK602, HB⟩ := hcut
    cases kq with
    | zero => exact absurd HA.out (by simp [kimberlitelaw03_CurveFenchel.j0])
    | succ kj8 =>
     have H := HA.out
     clear HA
     simp only [kimberlitelaw03_CurveFenchel.j0] at H
     by_cases c35 : x89_8 = true
     · subst c35
       have H1 : (some false) = some r := by rw [if_pos rfl] at H; exact H
       clear H
       have H := H1
       clear H1
       obtain rfl := Option.some.inj H
       go_wp2
       go_ret
       exact ⟨by first | rfl | (simp [errW_none, errW_some] <;> rfl) | (simp [*, errW_none, errW_some] <;> rfl), nC HB⟩
     · replace c35 := Bool.eq_false_iff.mpr c35
       subst c35
       have H1 : ((kimberlitelaw03_at.f a0_0 a0_1 l0_2 a3).bind fun bt614 => ((kimberlitelaw03_at.f a1_0 a1_1 l1_2 a3).bind fun bt616 => (if bt614.2 = true then (if bt616.2 = true then (if (wrap64 (bt614.1 + bt616.1)) < t603 then (kimberlitelaw03_CurveFenchel.j1 kj8 a2 t603 t604 t605 t608 t610 true a0_0 a0_1 l0_2 a1_0 a1_1 l1_2) else (if (wrap64 (bt614.1 + bt616.1)) = t603 then (kimberlitelaw03_CurveFenchel.j1 kj8 a2 t603 t604 t605 t608 t610 (decide (a3 < t604)) a0_0 a0_1 l0_2 a1_0 a1_1 l1_2) else (kimberlitelaw03_CurveFenchel.j1 kj8 a2 t603 t604 t605 t608 t610 false a0_0 a0_1 l0_2 a1_0 a1_1 l1_2))) else (kimberlitelaw03_CurveFenchel.j1 kj8 a2 t603 t604 t605 t608 t610 false a0_0 a0_1 l0_2 a1_0 a1_1 l1_2)) else (kimberlitelaw03_CurveFenchel.j1 kj8 a2 t603 t604 t605 t608 t610 false a0_0 a0_1 l0_2 a1_0 a1_1 l1_2)))) = some r := by rw [if_neg (show ¬ (false = true) by decide)] at H; exact H
       clear H
       have H := H1
       clear H1
       replace H := Option.bind_eq_some_iff.mp H
       obtain ⟨⟨t614, t615⟩, A360, H⟩ := H
       replace H : ((kimberlitelaw03_at.f a1_0 a1_1 l1_2 a3).bind fun bt616 => (if t615 = true then (if bt616.2 = true then (if (wrap64 (t614 + bt616.1)) < t603 then (kimberlitelaw03_CurveFenchel.j1 kj8 a2 t603 t604 t605 t608 t610 true a0_0 a0_1 l0_2 a1_0 a1_1 l1_2) else (if (wrap64 (t614 + bt616.1)) = t603 then (kimberlitelaw03_CurveFenchel.j1 kj8 a2 t603 t604 t605 t608 t610 (decide (a3 < t604)) a0_0 a0_1 l0_2 a1_0 a1_1 l1_2) else (kimberlitelaw03_CurveFenchel.j1 kj8 a2 t603 t604 t605 t608 t610 false a0_0 a0_1 l0_2 a1_0 a1_1 l1_2))) else (kimberlitelaw03_CurveFenchel.j1 kj8 a2 t603 t604 t605 t608 t610 false a0_0 a0_1 l0_2 a1_0 a1_1 l1_2)) else (kimberlitelaw03_CurveFenchel.j1 kj8 a2 t603 t604 t605 t608 t610 false a0_0 a0_1 l0_2 a1_0 a1_1 l1_2))) = some r := H
       have A36 := Aside0.mk A360
       clear A360
       replace H := Option.bind_eq_some_iff.mp H
       obtain ⟨⟨t616, t617⟩, A370, H⟩ := H
       replace H : (if t615 = true then (if t617 = true then (if (wrap64 (t614 + t616)) < t603 then (kimberlitelaw03_CurveFenchel.j1 kj8 a2 t603 t604 t605 t608 t610 true a0_0 a0_1 l0_2 a1_0 a1_1 l1_2) else (if (wrap64 (t614 + t616)) = t603 then (kimberlitelaw03_CurveFenchel.j1 kj8 a2 t603 t604 t605 t608 t610 (decide (a3 < t604)) a0_0 a0_1 l0_2 a1_0 a1_1 l1_2) else (kimberlitelaw03_CurveFenchel.j1 kj8 a2 t603 t604 t605 t608 t610 false a0_0 a0_1 l0_2 a1_0 a1_1 l1_2))) else (kimberlitelaw03_CurveFenchel.j1 kj8 a2 t603 t604 t605 t608 t610 false a0_0 a0_1 l0_2 a1_0 a1_1 l1_2)) else (kimberlitelaw03_CurveFenchel.j1 kj8 a2 t603 t604 t605 t608 t610 false a0_0 a0_1 l0_2 a1_0 a1_1 l1_2)) = some r := H
       have A37 := Aside0.mk A370
       clear A370
       have HC38 := Aside0.mk H
       clear H
       have hnb39 := NB601_602.out
       have hnc39 := NB602_601.out
       have hcz40_0 : wc.cell? ⟨gb601, 0, none⟩ = some (.int .i64 a0_0) := (blk_cell BK601.out 0).trans rfl
       have hcz40_1 : wc.cell? ⟨gb601, 1, none⟩ = some (.int .i64 a0_1) := (blk_cell BK601.out 1).trans rfl
       have hcz40_2 : wc.cell? ⟨gb601, 2, none⟩ = some (.slice A0_2 l0_2.length c0_2) := (blk_cell BK601.out 2).trans rfl
       have hfz40_0 := blk_frozen BK601.out 0
       have hfz40_1 := blk_frozen BK601.out 1
       have hfz40_2 := blk_frozen BK601.out 2
       go_upto_region 10 with (first | ((with_reducible refine gate_callee (f := 18) rfl ?_); refine goesL_ (some 93) rfl rfl Try.func18 (by kernel_rfl) rfl #[.agg #[.int .i64 a0_0, .int .i64 a0_1, .slice A0_2 l0_2.length c0_2], .int .i64 a3] rfl (by (try simp only [List.map_toArray, List.map_cons, List.map_nil]); first | done | rfl | (simp only [List.length_drop, List.length_take]; rfl)) ?_; (with_reducible refine (kimberlitelaw03_at.calls a0_0 a0_1 _ _ l0_2 a3 t614 t615 _ ?side1 ?side2 A36.out).mono ?_); (case side1 => repeat (first | exact (Kd.C_below HR0_2.out HB.out) | (with_reducible refine Kd.C_alloc ?_ _) | (with_reducible refine Kd.C_drewN ?_ _) | (with_reducible refine Kd.C_drew ?_))); (case side2 => exact HC0_2.out); rintro e w41 ⟨rfl, hb⟩; refine ⟨_, rfl, ?_⟩; have n0_ := Aside0.mk (nB BK601 hb); have n1_ := Aside0.mk (nB BK602 hb); have n2_ := Aside0.mk (below_step (nC HB) hb); clear BK601; clear BK602; clear HB; have BK601 := n0_; have BK602 := n1_; have HB := n2_; clear n0_ n1_ n2_; (try clear hb); (try clear hb2); (try clear hk); (try clear hi); have hcz42_0 : w41.cell? ⟨gb602, 0, none⟩ = some (.int .i64 a1_0) := (blk_cell BK602.out 0).trans rfl; have hcz42_1 : w41.cell? ⟨gb602, 1, none⟩ = some (.int .i64 a1_1) := (blk_cell BK602.out 1).trans rfl; have hcz42_2 : w41.cell? ⟨gb602, 2, none⟩ = some (.slice A1_2 l1_2.length c1_2) := (blk_cell BK602.out 2).trans rfl; have hfz42_0 := blk_frozen BK602.out 0; have hfz42_1 := blk_frozen BK602.out 1; have hfz42_2 := blk_frozen BK602.out 2) | ((with_reducible refine gate_callee (f := 18) rfl ?_); refine goesL_ (some 99) rfl rfl Try.func18 (by kernel_rfl) rfl #[.agg #[.int .i64 a1_0, .int .i64 a1_1, .slice A1_2 l1_2.length c1_2], .int .i64 a3] rfl (by (try simp only [List.map_toArray, List.map_cons, List.map_nil]); first | done | rfl | (simp only [List.length_drop, List.length_take]; rfl)) ?_; (with_reducible refine (kimberlitelaw03_at.calls a1_0 a1_1 _ _ l1_2 a3 t616 t617 _ ?side1 ?side2 A37.out).mono ?_); (case side1 => repeat (first | exact (Kd.C_below HR1_2.out HB.out) | (with_reducible refine Kd.C_alloc ?_ _) | (with_reducible refine Kd.C_drewN ?_ _) | (with_reducible refine Kd.C_drew ?_))); (case side2 => exact HC1_2.out); rintro e w43 ⟨rfl, hb⟩; refine ⟨_, rfl, ?_⟩; have n0_ := Aside0.mk (nB BK601 hb); have n1_ := Aside0.mk (nB BK602 hb); have n2_ := Aside0.mk (below_step (nC HB) hb); clear BK601; clear BK602; clear HB; have BK601 := n0_; have BK602 := n1_; have HB := n2_; clear n0_ n1_ n2_; (try clear hb); (try clear hb2); (try clear hk); (try clear hi)))
       (try simp only [Act.put, List.setIfInBounds_toArray, List.set_cons_zero, List.set_cons_succ])
       go_cut [124] (fun v124 wc => ∃ (kq : Nat) (x124_37 : Bool), v124 = .bool x124_37 ∧ Aside0 (kimberlitelaw03_CurveFenchel.j1 kq a2 t603 t604 t605 t608 t610 x124_37 a0_0 a0_1 l0_2 a1_0 a1_1 l1_2 = some r) ∧ Aside0 (kq ≤ kj8) ∧ Aside0 (wc.heap[gb601]? = some (.cells #[.int .i64 a0_0, .int .i64 a0_1, (.slice A0_2 l0_2.length c0_2)] 24 (0, 0))) ∧ Aside0 (wc.heap[gb602]? = some (.cells #[.int .i64 a1_0, .int .i64 a1_1, (.slice A1_2 l1_2.length c1_2)] 24 (0, 0))) ∧ Aside0 (Below w.heap.size w wc))
       case first =>
        as_aux_lemma =>
        have H := HC38.out
        clear HC38
        by_cases c44 : t615 = true
        · subst c44
          have H1 : (if t617 = true then (if (wrap64 (t614 + t616)) < t603 then (kimberlitelaw03_CurveFenchel.j1 kj8 a2 t603 t604 t605 t608 t610 true a0_0 a0_1 l0_2 a1_0 a1_1 l1_2) else (if (wrap64 (t614 + t616)) = t603 then (kimberlitelaw03_CurveFenchel.j1 kj8 a2 t603 t604 t605 t608 t610 (decide (a3 < t604)) a0_0 a0_1 l0_2 a1_0 a1_1 l1_2) else (kimberlitelaw03_CurveFenchel.j1 kj8 a2 t603 t604 t605 t608 t610 false a0_0 a0_1 l0_2 a1_0 a1_1 l1_2))) else (kimberlitelaw03_CurveFenchel.j1 kj8 a2 t603 t604 t605 t608 t610 false a0_0 a0_1 l0_2 a1_0 a1_1 l1_2)) = some r := by rw [if_pos rfl] at H; exact H
          clear H
          have H := H1
          clear H1
          by_cases c45 : t617 = true
          · subst c45
            have H1 : (if (wrap64 (t614 + t616)) < t603 then (kimberlitelaw03_CurveFenchel.j1 kj8 a2 t603 t604 t605 t608 t610 true a0_0 a0_1 l0_2 a1_0 a1_1 l1_2) else (if (wrap64 (t614 + t616)) = t603 then (kimberlitelaw03_CurveFenchel.j1 kj8 a2 t603 t604 t605 t608 t610 (decide (a3 < t604)) a0_0 a0_1 l0_2 a1_0 a1_1 l1_2) else (kimberlitelaw03_CurveFenchel.j1 kj8 a2 t603 t604 t605 t608 t610 false a0_0 a0_1 l0_2 a1_0 a1_1 l1_2))) = some r := by rw [if_pos rfl] at H; exact H
            clear H
            have H := H1
            clear H1
            by_cases c46 : (wrap64 (t614 + t616)) < t603
            · rw [if_pos c46] at H
              have c46b0 : decide ((wrap64 (t614 + t616)) < t603) = true := decide_eq_true c46
              clear c46
              (first | rw [c46b0] | (simp only [i64_w, i32_w]; rw [c46b0]) | skip)
              have H' := Aside0.mk H
              clear H
              go_wp2
              go_meet
              case rel => exact ⟨_, (true), (by first | rfl | (simp; done) | (simp [*]; done)), H', ⟨by have := HJ8.out; first | omega | exact Nat.le_refl _⟩, ⟨nK BK601⟩, ⟨nK BK602⟩, ⟨nC HB⟩⟩
            · rw [if_neg c46] at H
              have c46b0 : decide ((wrap64 (t614 + t616)) < t603) = false := decide_eq_false c46
              clear c46
              (first | rw [c46b0] | (simp only [i64_w, i32_w]; rw [c46b0]) | skip)
              by_cases c47 : (wrap64 (t614 + t616)) = t603
              · rw [if_pos c47] at H
                have c47b0 : ((wrap64 (t614 + t616)) == t603) = true := beq_iff_eq.mpr c47
                have c47b1 : ((wrap64 (t614 + t616)) != t603) = false := bne_eq_false_iff_eq.mpr c47
                clear c47
                have H' := Aside0.mk H
                clear H
                go_wp2
                go_meet
                case rel => exact ⟨_, (decide (a3 < t604)), (by first | rfl | (simp; done) | (simp [*]; done)), H', ⟨by have := HJ8.out; first | omega | exact Nat.le_refl _⟩, ⟨nK BK601⟩, ⟨nK BK602⟩, ⟨nC HB⟩⟩
              · rw [if_neg c47] at H
                have c47b0 : ((wrap64 (t614 + t616)) == t603) = false := beq_eq_false_iff_ne.mpr c47
                have c47b1 : ((wrap64 (t614 + t616)) != t603) = true := bne_iff_ne.mpr c47
                have H' := Aside0.mk H
                clear H
                go_wp2
                go_meet
                case rel => exact ⟨_, (false), (by first | rfl | (simp; done) | (simp [*]; done)), H', ⟨by have := HJ8.out; first | omega | exact Nat.le_refl _⟩, ⟨nK BK601⟩, ⟨nK BK602⟩, ⟨nC HB⟩⟩
          · replace c45 := Bool.eq_false_iff.mpr c45
            subst c45
            have H1 : (kimberlitelaw03_CurveFenchel.j1 kj8 a2 t603 t604 t605 t608 t610 false a0_0 a0_1 l0_2 a1_0 a1_1 l1_2) = some r := by rw [if_neg (show ¬ (false = true) by decide)] at H; exact H
            clear H
            have H := H1
            clear H1
            have H' := Aside0.mk H
            clear H
            go_wp2
            go_meet
            case rel => exact ⟨_, (false), (by first | rfl | (simp; done) | (simp [*]; done)), H', ⟨by have := HJ8.out; first | omega | exact Nat.le_refl _⟩, ⟨nK BK601⟩, ⟨nK BK602⟩, ⟨nC HB⟩⟩
        · replace c44 := Bool.eq_false_iff.mpr c44
          subst c44
          have H1 : (kimberlitelaw03_CurveFenchel.j1 kj8 a2 t603 t604 t605 t608 t610 false a0_0 a0_1 l0_2 a1_0 a1_1 l1_2) = some r := by rw [if_neg (show ¬ (false = true) by decide)] at H; exact H
          clear H
          have H := H1
          clear H1
          have H' := Aside0.mk H
          clear H
          go_wp2
          go_meet
          case rel => exact ⟨_, (false), (by first | rfl | (simp; done) | (simp [*]; done)), H', ⟨by have := HJ8.out; first | omega | exact Nat.le_refl _⟩, ⟨nK BK601⟩, ⟨nK BK602⟩, ⟨nC HB⟩⟩
       case rest =>
        as_aux_lemma =>
        clear HC38
        try clear c1
        try clear c2
        try clear p2
        try clear c3
        try clear c4
        try clear p6
        try clear c18
        try clear c20
        try clear c21
        try clear c35
        try clear c39
        try clear c44
        try clear c45
        try clear c46
        try clear c46b0
        try clear c47
        try clear c47b0
        try clear c47b1
        try clear hcz40_0
        try clear hcz40_1
        try clear hcz40_2
        try clear hcz42_0
        try clear hcz42_1
        try clear hcz42_2
        try clear hfz40_0
        try clear hfz40_1
        try clear hfz40_2
        try clear hfz42_0
        try clear hfz42_1
        try clear hfz42_2
        try clear p2
        obtain ⟨kq, x124_37, rfl, HA, HJ37, BK601, BK602, HB⟩ := hcut
        cases kq with
        | zero => exact absurd HA.out (by simp [kimberlitelaw03_CurveFenchel.j1])
        | succ kj37 =>
         have H := HA.out
         clear HA
         simp only [kimberlitelaw03_CurveFenchel.j1] at H
         by_cases c48 : x124_37 = true
         · subst c48
           have H1 : (some false) = some r := by rw [if_pos rfl] at H; exact H
           clear H
           have H := H1
           clear H1
           obtain rfl := Option.some.inj H
           go_wp2
           go_ret
           exact ⟨by first | rfl | (simp [errW_none, errW_some] <;> rfl) | (simp [*, errW_none, errW_some] <;> rfl), nC HB⟩
         · replace c48 := Bool.eq_false_iff.mpr c48
           subst c48
           have H1 : (if t605 > (-1048576) then ((kimberlitelaw03_greatest.f kj37 a0_0 a0_1 l0_2 (wrap64 (t605 - 1))).bind fun t618 => ((kimberlitelaw03_greatest.f kj37 a1_0 a1_1 l1_2 (wrap64 (1 - t605))).bind fun t619 => (if (wrap64 (t618 + t619)) = (wrap64 (-t603)) then ((kimberlitelaw03_greatest.f kj37 a0_0 a0_1 l0_2 t605).bind fun t620 => (if (wrap64 ((wrap64 (t605 * t604)) - t608)) = t620 then ((kimberlitelaw03_greatest.f kj37 a0_0 a0_1 l0_2 (wrap64 (t605 - 1))).bind fun t621 => (if (wrap64 ((wrap64 ((wrap64 (t605 - 1)) * t604)) - t608)) = t621 then ((kimberlitelaw03_greatest.f kj37 a1_0 a1_1 l1_2 (wrap64 (1 - t605))).bind fun t622 => (kimberlitelaw03_CurveFenchel.j2 kj37 a2 t603 ((wrap64 ((wrap64 ((wrap64 (1 - t605)) * t604)) - t610)) == t622) a0_0 a0_1 l0_2 a1_0 a1_1 l1_2)) else (kimberlitelaw03_CurveFenchel.j2 kj37 a2 t603 false a0_0 a0_1 l0_2 a1_0 a1_1 l1_2))) else (kimberlitelaw03_CurveFenchel.j2 kj37 a2 t603 false a0_0 a0_1 l0_2 a1_0 a1_1 l1_2))) else (kimberlitelaw03_CurveFenchel.j2 kj37 a2 t603 false a0_0 a0_1 l0_2 a1_0 a1_1 l1_2)))) else (kimberlitelaw03_CurveFenchel.j2 kj37 a2 t603 false a0_0 a0_1 l0_2 a1_0 a1_1 l1_2)) = some r := by rw [if_neg (show ¬ (false = true) by decide)] at H; exact H
           clear H
           have H := H1
           clear H1
           have HC49 := Aside0.mk H
           clear H
           go_upto_region 12 with (fail)
           go_cut [177] (fun v177 wc => ∃ (kq : Nat) (x177_48 : Bool), v177 = .bool x177_48 ∧ Aside0 (kimberlitelaw03_CurveFenchel.j2 kq a2 t603 x177_48 a0_0 a0_1 l0_2 a1_0 a1_1 l1_2 = some r) ∧ Aside0 (kq ≤ kj37) ∧ Aside0 (wc.heap[gb601]? = some (.cells #[.int .i64 a0_0, .int .i64 a0_1, (.slice A0_2 l0_2.length c0_2)] 24 (0, 0))) ∧ Aside0 (wc.heap[gb602]? = some (.cells #[.int .i64 a1_0, .int .i64 a1_1, (.slice A1_2 l1_2.length c1_2)] 24 (0, 0))) ∧ Aside0 (Below w.heap.size w wc))
           case first =>
            as_aux_lemma =>
            have H := HC49.out
            clear HC49
            by_cases c50 : t605 > (-1048576)
            · rw [if_pos c50] at H
              have c50b0 : decide ((-1048576) < t605) = true := decide_eq_true c50
              clear c50
              (first | rw [c50b0] | (simp only [i64_w, i32_w]; rw [c50b0]) | skip)
              replace H := Option.bind_eq_some_iff.mp H
              obtain ⟨t618, A510, H⟩ := H
              replace H : ((kimberlitelaw03_greatest.f kj37 a1_0 a1_1 l1_2 (wrap64 (1 - t605))).bind fun t619 => (if (wrap64 (t618 + t619)) = (wrap64 (-t603)) then ((kimberlitelaw03_greatest.f kj37 a0_0 a0_1 l0_2 t605).bind fun t620 => (if (wrap64 ((wrap64 (t605 * t604)) - t608)) = t620 then ((kimberlitelaw03_greatest.f kj37 a0_0 a0_1 l0_2 (wrap64 (t605 - 1))).bind fun t621 => (if (wrap64 ((wrap64 ((wrap64 (t605 - 1)) * t604)) - t608)) = t621 then ((kimberlitelaw03_greatest.f kj37 a1_0 a1_1 l1_2 (wrap64 (1 - t605))).bind fun t622 => (kimberlitelaw03_CurveFenchel.j2 kj37 a2 t603 ((wrap64 ((wrap64 ((wrap64 (1 - t605)) * t604)) - t610)) == t622) a0_0 a0_1 l0_2 a1_0 a1_1 l1_2)) else (kimberlitelaw03_CurveFenchel.j2 kj37 a2 t603 false a0_0 a0_1 l0_2 a1_0 a1_1 l1_2))) else (kimberlitelaw03_CurveFenchel.j2 kj37 a2 t603 false a0_0 a0_1 l0_2 a1_0 a1_1 l1_2))) else (kimberlitelaw03_CurveFenchel.j2 kj37 a2 t603 false a0_0 a0_1 l0_2 a1_0 a1_1 l1_2))) = some r := H
              have A51 := Aside0.mk A510
              clear A510
              replace H := Option.bind_eq_some_iff.mp H
              obtain ⟨t619, A520, H⟩ := H
              replace H : (if (wrap64 (t618 + t619)) = (wrap64 (-t603)) then ((kimberlitelaw03_greatest.f kj37 a0_0 a0_1 l0_2 t605).bind fun t620 => (if (wrap64 ((wrap64 (t605 * t604)) - t608)) = t620 then ((kimberlitelaw03_greatest.f kj37 a0_0 a0_1 l0_2 (wrap64 (t605 - 1))).bind fun t621 => (if (wrap64 ((wrap64 ((wrap64 (t605 - 1)) * t604)) - t608)) = t621 then ((kimberlitelaw03_greatest.f kj37 a1_0 a1_1 l1_2 (wrap64 (1 - t605))).bind fun t622 => (kimberlitelaw03_CurveFenchel.j2 kj37 a2 t603 ((wrap64 ((wrap64 ((wrap64 (1 - t605)) * t604)) - t610)) == t622) a0_0 a0_1 l0_2 a1_0 a1_1 l1_2)) else (kimberlitelaw03_CurveFenchel.j2 kj37 a2 t603 false a0_0 a0_1 l0_2 a1_0 a1_1 l1_2))) else (kimberlitelaw03_CurveFenchel.j2 kj37 a2 t603 false a0_0 a0_1 l0_2 a1_0 a1_1 l1_2))) else (kimberlitelaw03_CurveFenchel.j2 kj37 a2 t603 false a0_0 a0_1 l0_2 a1_0 a1_1 l1_2)) = some r := H
              have A52 := Aside0.mk A520
              clear A520
              by_cases c53 : (wrap64 (t618 + t619)) = (wrap64 (-t603))
              · rw [if_pos c53] at H
                have c53b0 : ((wrap64 (t618 + t619)) == (wrap64 (-t603))) = true := beq_iff_eq.mpr c53
                have c53b1 : ((wrap64 (t618 + t619)) != (wrap64 (-t603))) = false := bne_eq_false_iff_eq.mpr c53
                clear c53
                replace H := Option.bind_eq_some_iff.mp H
                obtain ⟨t620, A540, H⟩ := H
                replace H : (if (wrap64 ((wrap64 (t605 * t604)) - t608)) = t620 then ((kimberlitelaw03_greatest.f kj37 a0_0 a0_1 l0_2 (wrap64 (t605 - 1))).bind fun t621 => (if (wrap64 ((wrap64 ((wrap64 (t605 - 1)) * t604)) - t608)) = t621 then ((kimberlitelaw03_greatest.f kj37 a1_0 a1_1 l1_2 (wrap64 (1 - t605))).bind fun t622 => (kimberlitelaw03_CurveFenchel.j2 kj37 a2 t603 ((wrap64 ((wrap64 ((wrap64 (1 - t605)) * t604)) - t610)) == t622) a0_0 a0_1 l0_2 a1_0 a1_1 l1_2)) else (kimberlitelaw03_CurveFenchel.j2 kj37 a2 t603 false a0_0 a0_1 l0_2 a1_0 a1_1 l1_2))) else (kimberlitelaw03_CurveFenchel.j2 kj37 a2 t603 false a0_0 a0_1 l0_2 a1_0 a1_1 l1_2)) = some r := H
                have A54 := Aside0.mk A540
                clear A540
                by_cases c55 : (wrap64 ((wrap64 (t605 * t604)) - t608)) = t620
                · rw [if_pos c55] at H
                  have c55b0 : ((wrap64 ((wrap64 (t605 * t604)) - t608)) == t620) = true := beq_iff_eq.mpr c55
                  have c55b1 : ((wrap64 ((wrap64 (t605 * t604)) - t608)) != t620) = false := bne_eq_false_iff_eq.mpr c55
                  clear c55
                  replace H := Option.bind_eq_some_iff.mp H
                  obtain ⟨t621, A560, H⟩ := H
                  replace H : (if (wrap64 ((wrap64 ((wrap64 (t605 - 1)) * t604)) - t608)) = t621 then ((kimberlitelaw03_greatest.f kj37 a1_0 a1_1 l1_2 (wrap64 (1 - t605))).bind fun t622 => (kimberlitelaw03_CurveFenchel.j2 kj37 a2 t603 ((wrap64 ((wrap64 ((wrap64 (1 - t605)) * t604)) - t610)) == t622) a0_0 a0_1 l0_2 a1_0 a1_1 l1_2)) else (kimberlitelaw03_CurveFenchel.j2 kj37 a2 t603 false a0_0 a0_1 l0_2 a1_0 a1_1 l1_2)) = some r := H
                  have A56 := Aside0.mk A560
                  clear A560
                  by_cases c57 : (wrap64 ((wrap64 ((wrap64 (t605 - 1)) * t604)) - t608)) = t621
                  · rw [if_pos c57] at H
                    have c57b0 : ((wrap64 ((wrap64 ((wrap64 (t605 - 1)) * t604)) - t608)) == t621) = true := beq_iff_eq.mpr c57
                    have c57b1 : ((wrap64 ((wrap64 ((wrap64 (t605 - 1)) * t604)) - t608)) != t621) = false := bne_eq_false_iff_eq.mpr c57
                    clear c57
                    replace H := Option.bind_eq_some_iff.mp H
                    obtain ⟨t622, A580, H⟩ := H
                    replace H : (kimberlitelaw03_CurveFenchel.j2 kj37 a2 t603 ((wrap64 ((wrap64 ((wrap64 (1 - t605)) * t604)) - t610)) == t622) a0_0 a0_1 l0_2 a1_0 a1_1 l1_2) = some r := H
                    have A58 := Aside0.mk A580
                    clear A580
                    have H' := Aside0.mk H
                    clear H
                    try go_wp2
                    have gz0_ : ∀ p : Bel wc, p.W.cell? ⟨gb601, 0, none⟩ = some (.int .i64 a0_0) := Bel.cell ((blk_cell BK601.out 0).trans rfl)
                    have gz1_ : ∀ p : Bel wc, p.W.cell? ⟨gb601, 1, none⟩ = some (.int .i64 a0_1) := Bel.cell ((blk_cell BK601.out 1).trans rfl)
                    have gz2_ : ∀ p : Bel wc, p.W.cell? ⟨gb601, 2, none⟩ = some (.slice A0_2 l0_2.length c0_2) := Bel.cell ((blk_cell BK601.out 2).trans rfl)
                    have gz3_ : ∀ p : Bel wc, p.W.cell? ⟨gb602, 0, none⟩ = some (.int .i64 a1_0) := Bel.cell ((blk_cell BK602.out 0).trans rfl)
                    have gz4_ : ∀ p : Bel wc, p.W.cell? ⟨gb602, 1, none⟩ = some (.int .i64 a1_1) := Bel.cell ((blk_cell BK602.out 1).trans rfl)
                    have gz5_ : ∀ p : Bel wc, p.W.cell? ⟨gb602, 2, none⟩ = some (.slice A1_2 l1_2.length c1_2) := Bel.cell ((blk_cell BK602.out 2).trans rfl)
                    have gc0_ := fun p_ : Bel wc => Calls.bel_of (p := p_) (kimberlitelaw03_greatest.calls kj37 a0_0 a0_1 _ _ l0_2 (wrap64 (t605 - 1)) t618 _ (Kd.C_below (Kd.C_below HR0_2.out HB.out) (Bel.h p_)) HC0_2.out A51.out)
                    have gc1_ := fun p_ : Bel wc => Calls.bel_of (p := p_) (kimberlitelaw03_greatest.calls kj37 a1_0 a1_1 _ _ l1_2 (wrap64 (1 - t605)) t619 _ (Kd.C_below (Kd.C_below HR1_2.out HB.out) (Bel.h p_)) HC1_2.out A52.out)
                    have gc2_ := fun p_ : Bel wc => Calls.bel_of (p := p_) (kimberlitelaw03_greatest.calls kj37 a0_0 a0_1 _ _ l0_2 t605 t620 _ (Kd.C_below (Kd.C_below HR0_2.out HB.out) (Bel.h p_)) HC0_2.out A54.out)
                    have gc3_ := fun p_ : Bel wc => Calls.bel_of (p := p_) (kimberlitelaw03_greatest.calls kj37 a0_0 a0_1 _ _ l0_2 (wrap64 (t605 - 1)) t621 _ (Kd.C_below (Kd.C_below HR0_2.out HB.out) (Bel.h p_)) HC0_2.out A56.out)
                    have gc4_ := fun p_ : Bel wc => Calls.bel_of (p := p_) (kimberlitelaw03_greatest.calls kj37 a1_0 a1_1 _ _ l1_2 (wrap64 (1 - t605)) t622 _ (Kd.C_below (Kd.C_below HR1_2.out HB.out) (Bel.h p_)) HC1_2.out A58.out)
                    have mixed_ : Try.prog.follows .mixedOrders = true := by kernel_rfl
                    refine wp_region_bel mixed_ (by kernel_rfl) ?_
                    repeat (go_big_quiet_step (fail))
                    go_big_quiet_step ((go_at_call 21; with_reducible exact gc0_ _))
                    repeat (go_big_quiet_step (fail))
                    go_big_quiet_step ((go_at_call 21; with_reducible exact gc1_ _))
                    repeat (go_big_quiet_step (fail))
                    go_big_quiet_step ((go_at_call 21; with_reducible exact gc2_ _))
                    repeat (go_big_quiet_step (fail))
                    go_big_quiet_step ((go_at_call 21; with_reducible exact gc3_ _))
                    repeat (go_big_quiet_step (fail))
                    go_big_quiet_step ((go_at_call 21; with_reducible exact gc4_ _))
                    repeat (go_big_quiet_step (fail))
                    refine wpQuiet_nil ?_
                    intro wq hw'
                    obtain ⟨pq, hw''⟩ := hw'
                    have hq := Bel.h pq
                    rw [← hw''] at hq
                    clear hw'' pq
                    clear gc0_
                    clear gc1_
                    clear gc2_
                    clear gc3_
                    clear gc4_
                    (try simp only [i64_w, i32_w])
                    clear gz0_ gz1_ gz2_ gz3_ gz4_ gz5_
                    have n0_ := Aside0.mk (blk_below BK601.out hq)
                    have n1_ := Aside0.mk (blk_below BK602.out hq)
                    have n2_ := Aside0.mk (below_step HB.out hq)
                    clear hq BK601 BK602 HB
                    have BK601 := n0_
                    have BK602 := n1_
                    have HB := n2_
                    clear n0_ n1_ n2_
                    try go_wp2
                    go_meet
                    case rel => exact ⟨_, (((wrap64 ((wrap64 ((wrap64 (1 - t605)) * t604)) - t610)) == t622)), (by first | rfl | (simp; done) | (simp [*]; done)), H', ⟨by have := HJ8.out; have := HJ37.out; first | omega | exact Nat.le_refl _⟩, ⟨nK BK601⟩, ⟨nK BK602⟩, ⟨nC HB⟩⟩
                  · rw [if_neg c57] at H
                    have c57b0 : ((wrap64 ((wrap64 ((wrap64 (t605 - 1)) * t604)) - t608)) == t621) = false := beq_eq_false_iff_ne.mpr c57
                    have c57b1 : ((wrap64 ((wrap64 ((wrap64 (t605 - 1)) * t604)) - t608)) != t621) = true := bne_iff_ne.mpr c57
                    have H' := Aside0.mk H
                    clear H
                    try go_wp2
                    have gz0_ : ∀ p : Bel wc, p.W.cell? ⟨gb601, 0, none⟩ = some (.int .i64 a0_0) := Bel.cell ((blk_cell BK601.out 0).trans rfl)
                    have gz1_ : ∀ p : Bel wc, p.W.cell? ⟨gb601, 1, none⟩ = some (.int .i64 a0_1) := Bel.cell ((blk_cell BK601.out 1).trans rfl)
                    have gz2_ : ∀ p : Bel wc, p.W.cell? ⟨gb601, 2, none⟩ = some (.slice A0_2 l0_2.length c0_2) := Bel.cell ((blk_cell BK601.out 2).trans rfl)
                    have gz3_ : ∀ p : Bel wc, p.W.cell? ⟨gb602, 0, none⟩ = some (.int .i64 a1_0) := Bel.cell ((blk_cell BK602.out 0).trans rfl)
                    have gz4_ : ∀ p : Bel wc, p.W.cell? ⟨gb602, 1, none⟩ = some (.int .i64 a1_1) := Bel.cell ((blk_cell BK602.out 1).trans rfl)
                    have gz5_ : ∀ p : Bel wc, p.W.cell? ⟨gb602, 2, none⟩ = some (.slice A1_2 l1_2.length c1_2) := Bel.cell ((blk_cell BK602.out 2).trans rfl)
                    have gc0_ := fun p_ : Bel wc => Calls.bel_of (p := p_) (kimberlitelaw03_greatest.calls kj37 a0_0 a0_1 _ _ l0_2 (wrap64 (t605 - 1)) t618 _ (Kd.C_below (Kd.C_below HR0_2.out HB.out) (Bel.h p_)) HC0_2.out A51.out)
                    have gc1_ := fun p_ : Bel wc => Calls.bel_of (p := p_) (kimberlitelaw03_greatest.calls kj37 a1_0 a1_1 _ _ l1_2 (wrap64 (1 - t605)) t619 _ (Kd.C_below (Kd.C_below HR1_2.out HB.out) (Bel.h p_)) HC1_2.out A52.out)
                    have gc2_ := fun p_ : Bel wc => Calls.bel_of (p := p_) (kimberlitelaw03_greatest.calls kj37 a0_0 a0_1 _ _ l0_2 t605 t620 _ (Kd.C_below (Kd.C_below HR0_2.out HB.out) (Bel.h p_)) HC0_2.out A54.out)
                    have gc3_ := fun p_ : Bel wc => Calls.bel_of (p := p_) (kimberlitelaw03_greatest.calls kj37 a0_0 a0_1 _ _ l0_2 (wrap64 (t605 - 1)) t621 _ (Kd.C_below (Kd.C_below HR0_2.out HB.out) (Bel.h p_)) HC0_2.out A56.out)
                    have mixed_ : Try.prog.follows .mixedOrders = true := by kernel_rfl
                    refine wp_region_bel mixed_ (by kernel_rfl) ?_
                    repeat (go_big_quiet_step (fail))
                    go_big_quiet_step ((go_at_call 21; with_reducible exact gc0_ _))
                    repeat (go_big_quiet_step (fail))
                    go_big_quiet_step ((go_at_call 21; with_reducible exact gc1_ _))
                    repeat (go_big_quiet_step (fail))
                    go_big_quiet_step ((go_at_call 21; with_reducible exact gc2_ _))
                    repeat (go_big_quiet_step (fail))
                    go_big_quiet_step ((go_at_call 21; with_reducible exact gc3_ _))
                    repeat (go_big_quiet_step (fail))
                    refine wpQuiet_nil ?_
                    intro wq hw'
                    obtain ⟨pq, hw''⟩ := hw'
                    have hq := Bel.h pq
                    rw [← hw''] at hq
                    clear hw'' pq
                    clear gc0_
                    clear gc1_
                    clear gc2_
                    clear gc3_
                    (try simp only [i64_w, i32_w])
                    clear gz0_ gz1_ gz2_ gz3_ gz4_ gz5_
                    have n0_ := Aside0.mk (blk_below BK601.out hq)
                    have n1_ := Aside0.mk (blk_below BK602.out hq)
                    have n2_ := Aside0.mk (below_step HB.out hq)
                    clear hq BK601 BK602 HB
                    have BK601 := n0_
                    have BK602 := n1_
                    have HB := n2_
                    clear n0_ n1_ n2_
                    try go_wp2
                    go_meet
                    case rel => exact ⟨_, (false), (by first | rfl | (simp; done) | (simp [*]; done)), H', ⟨by have := HJ8.out; have := HJ37.out; first | omega | exact Nat.le_refl _⟩, ⟨nK BK601⟩, ⟨nK BK602⟩, ⟨nC HB⟩⟩
                · rw [if_neg c55] at H
                  have c55b0 : ((wrap64 ((wrap64 (t605 * t604)) - t608)) == t620) = false := beq_eq_false_iff_ne.mpr c55
                  have c55b1 : ((wrap64 ((wrap64 (t605 * t604)) - t608)) != t620) = true := bne_iff_ne.mpr c55
                  have H' := Aside0.mk H
                  clear H
                  try go_wp2
                  have gz0_ : ∀ p : Bel wc, p.W.cell? ⟨gb601, 0, none⟩ = some (.int .i64 a0_0) := Bel.cell ((blk_cell BK601.out 0).trans rfl)
                  have gz1_ : ∀ p : Bel wc, p.W.cell? ⟨gb601, 1, none⟩ = some (.int .i64 a0_1) := Bel.cell ((blk_cell BK601.out 1).trans rfl)
                  have gz2_ : ∀ p : Bel wc, p.W.cell? ⟨gb601, 2, none⟩ = some (.slice A0_2 l0_2.length c0_2) := Bel.cell ((blk_cell BK601.out 2).trans rfl)
                  have gz3_ : ∀ p : Bel wc, p.W.cell? ⟨gb602, 0, none⟩ = some (.int .i64 a1_0) := Bel.cell ((blk_cell BK602.out 0).trans rfl)
                  have gz4_ : ∀ p : Bel wc, p.W.cell? ⟨gb602, 1, none⟩ = some (.int .i64 a1_1) := Bel.cell ((blk_cell BK602.out 1).trans rfl)
                  have gz5_ : ∀ p : Bel wc, p.W.cell? ⟨gb602, 2, none⟩ = some (.slice A1_2 l1_2.length c1_2) := Bel.cell ((blk_cell BK602.out 2).trans rfl)
                  have gc0_ := fun p_ : Bel wc => Calls.bel_of (p := p_) (kimberlitelaw03_greatest.calls kj37 a0_0 a0_1 _ _ l0_2 (wrap64 (t605 - 1)) t618 _ (Kd.C_below (Kd.C_below HR0_2.out HB.out) (Bel.h p_)) HC0_2.out A51.out)
                  have gc1_ := fun p_ : Bel wc => Calls.bel_of (p := p_) (kimberlitelaw03_greatest.calls kj37 a1_0 a1_1 _ _ l1_2 (wrap64 (1 - t605)) t619 _ (Kd.C_below (Kd.C_below HR1_2.out HB.out) (Bel.h p_)) HC1_2.out A52.out)
                  have gc2_ := fun p_ : Bel wc => Calls.bel_of (p := p_) (kimberlitelaw03_greatest.calls kj37 a0_0 a0_1 _ _ l0_2 t605 t620 _ (Kd.C_below (Kd.C_below HR0_2.out HB.out) (Bel.h p_)) HC0_2.out A54.out)
                  have mixed_ : Try.prog.follows .mixedOrders = true := by kernel_rfl
                  refine wp_region_bel mixed_ (by kernel_rfl) ?_
                  repeat (go_big_quiet_step (fail))
                  go_big_quiet_step ((go_at_call 21; with_reducible exact gc0_ _))
                  repeat (go_big_quiet_step (fail))
                  go_big_quiet_step ((go_at_call 21; with_reducible exact gc1_ _))
                  repeat (go_big_quiet_step (fail))
                  go_big_quiet_step ((go_at_call 21; with_reducible exact gc2_ _))
                  repeat (go_big_quiet_step (fail))
                  refine wpQuiet_nil ?_
                  intro wq hw'
                  obtain ⟨pq, hw''⟩ := hw'
                  have hq := Bel.h pq
                  rw [← hw''] at hq
                  clear hw'' pq
                  clear gc0_
                  clear gc1_
                  clear gc2_
                  (try simp only [i64_w, i32_w])
                  clear gz0_ gz1_ gz2_ gz3_ gz4_ gz5_
                  have n0_ := Aside0.mk (blk_below BK601.out hq)
                  have n1_ := Aside0.mk (blk_below BK602.out hq)
                  have n2_ := Aside0.mk (below_step HB.out hq)
                  clear hq BK601 BK602 HB
                  have BK601 := n0_
                  have BK602 := n1_
                  have HB := n2_
                  clear n0_ n1_ n2_
                  try go_wp2
                  go_meet
                  case rel => exact ⟨_, (false), (by first | rfl | (simp; done) | (simp [*]; done)), H', ⟨by have := HJ8.out; have := HJ37.out; first | omega | exact Nat.le_refl _⟩, ⟨nK BK601⟩, ⟨nK BK602⟩, ⟨nC HB⟩⟩
              · rw [if_neg c53] at H
                have c53b0 : ((wrap64 (t618 + t619)) == (wrap64 (-t603))) = false := beq_eq_false_iff_ne.mpr c53
                have c53b1 : ((wrap64 (t618 + t619)) != (wrap64 (-t603))) = true := bne_iff_ne.mpr c53
                have H' := Aside0.mk H
                clear H
                try go_wp2
                have gz0_ : ∀ p : Bel wc, p.W.cell? ⟨gb601, 0, none⟩ = some (.int .i64 a0_0) := Bel.cell ((blk_cell BK601.out 0).trans rfl)
                have gz1_ : ∀ p : Bel wc, p.W.cell? ⟨gb601, 1, none⟩ = some (.int .i64 a0_1) := Bel.cell ((blk_cell BK601.out 1).trans rfl)
                have gz2_ : ∀ p : Bel wc, p.W.cell? ⟨gb601, 2, none⟩ = some (.slice A0_2 l0_2.length c0_2) := Bel.cell ((blk_cell BK601.out 2).trans rfl)
                have gz3_ : ∀ p : Bel wc, p.W.cell? ⟨gb602, 0, none⟩ = some (.int .i64 a1_0) := Bel.cell ((blk_cell BK602.out 0).trans rfl)
                have gz4_ : ∀ p : Bel wc, p.W.cell? ⟨gb602, 1, none⟩ = some (.int .i64 a1_1) := Bel.cell ((blk_cell BK602.out 1).trans rfl)
                have gz5_ : ∀ p : Bel wc, p.W.cell? ⟨gb602, 2, none⟩ = some (.slice A1_2 l1_2.length c1_2) := Bel.cell ((blk_cell BK602.out 2).trans rfl)
                have gc0_ := fun p_ : Bel wc => Calls.bel_of (p := p_) (kimberlitelaw03_greatest.calls kj37 a0_0 a0_1 _ _ l0_2 (wrap64 (t605 - 1)) t618 _ (Kd.C_below (Kd.C_below HR0_2.out HB.out) (Bel.h p_)) HC0_2.out A51.out)
                have gc1_ := fun p_ : Bel wc => Calls.bel_of (p := p_) (kimberlitelaw03_greatest.calls kj37 a1_0 a1_1 _ _ l1_2 (wrap64 (1 - t605)) t619 _ (Kd.C_below (Kd.C_below HR1_2.out HB.out) (Bel.h p_)) HC1_2.out A52.out)
                have mixed_ : Try.prog.follows .mixedOrders = true := by kernel_rfl
                refine wp_region_bel mixed_ (by kernel_rfl) ?_
                repeat (go_big_quiet_step (fail))
                go_big_quiet_step ((go_at_call 21; with_reducible exact gc0_ _))
                repeat (go_big_quiet_step (fail))
                go_big_quiet_step ((go_at_call 21; with_reducible exact gc1_ _))
                repeat (go_big_quiet_step (fail))
                refine wpQuiet_nil ?_
                intro wq hw'
                obtain ⟨pq, hw''⟩ := hw'
                have hq := Bel.h pq
                rw [← hw''] at hq
                clear hw'' pq
                clear gc0_
                clear gc1_
                (try simp only [i64_w, i32_w])
                clear gz0_ gz1_ gz2_ gz3_ gz4_ gz5_
                have n0_ := Aside0.mk (blk_below BK601.out hq)
                have n1_ := Aside0.mk (blk_below BK602.out hq)
                have n2_ := Aside0.mk (below_step HB.out hq)
                clear hq BK601 BK602 HB
                have BK601 := n0_
                have BK602 := n1_
                have HB := n2_
                clear n0_ n1_ n2_
                try go_wp2
                go_meet
                case rel => exact ⟨_, (false), (by first | rfl | (simp; done) | (simp [*]; done)), H', ⟨by have := HJ8.out; have := HJ37.out; first | omega | exact Nat.le_refl _⟩, ⟨nK BK601⟩, ⟨nK BK602⟩, ⟨nC HB⟩⟩
            · rw [if_neg c50] at H
              have c50b0 : decide ((-1048576) < t605) = false := decide_eq_false c50
              clear c50
              (first | rw [c50b0] | (simp only [i64_w, i32_w]; rw [c50b0]) | skip)
              have H' := Aside0.mk H
              clear H
              try go_wp2
              have mixed_ : Try.prog.follows .mixedOrders = true := by kernel_rfl
              refine wp_region_bel mixed_ (by kernel_rfl) ?_
              repeat (go_big_quiet_step (fail))
              refine wpQuiet_nil ?_
              intro wq hw'
              obtain ⟨pq, hw''⟩ := hw'
              have hq := Bel.h pq
              rw [← hw''] at hq
              clear hw'' pq
              (try simp only [i64_w, i32_w])
              have n0_ := Aside0.mk (blk_below BK601.out hq)
              have n1_ := Aside0.mk (blk_below BK602.out hq)
              have n2_ := Aside0.mk (below_step HB.out hq)
              clear hq BK601 BK602 HB
              have BK601 := n0_
              have BK602 := n1_
              have HB := n2_
              clear n0_ n1_ n2_
              try go_wp2
              go_meet
              case rel => exact ⟨_, (false), (by first | rfl | (simp; done) | (simp [*]; done)), H', ⟨by have := HJ8.out; have := HJ37.out; first | omega | exact Nat.le_refl _⟩, ⟨nK BK601⟩, ⟨nK BK602⟩, ⟨nC HB⟩⟩
           case rest =>
            as_aux_lemma =>
            clear HC49
            try clear c1
            try clear c2
            try clear p2
            try clear c5
            try clear p6
            try clear c21
            try clear c50
            try clear c50b0
            try clear p64
            obtain ⟨kq, x177_48, rfl, HA, HJ48, BK601, BK602, HB⟩ := hcut
            cases kq with
            | zero => exact absurd HA.out (by simp [kimberlitelaw03_CurveFenchel.j2])
            | succ kj48 =>
             have H := HA.out
             clear HA
             simp only [kimberlitelaw03_CurveFenchel.j2] at H
             by_cases c78 : x177_48 = true
             · subst c78
               have H1 : (some false) = some r := by rw [if_pos rfl] at H; exact H
               clear H
               have H := H1
               clear H1
               obtain rfl := Option.some.inj H
               go_wp2
               go_ret
               exact ⟨by first | rfl | (simp [errW_none, errW_some] <;> rfl) | (simp [*, errW_none, errW_some] <;> rfl), nC HB⟩
             · replace c78 := Bool.eq_false_iff.mpr c78
               subst c78
               have H1 : (if a2 < (-1073741824) then ((kimberlitelaw03_alive.f).bind fun t623 => (some t623)) else (if a2 > 1073741824 then ((kimberlitelaw03_alive.f).bind fun t624 => (some t624)) else ((kimberlitelaw03_greatest.f kj48 a0_0 a0_1 l0_2 a2).bind fun t625 => ((kimberlitelaw03_greatest.f kj48 a1_0 a1_1 l1_2 (wrap64 (-a2))).bind fun t626 => (if (wrap64 (-(wrap64 (t625 + t626)))) ≤ t603 then ((kimberlitelaw03_alive.f).bind fun t627 => (some t627)) else (some false)))))) = some r := by rw [if_neg (show ¬ (false = true) by decide)] at H; exact H
               clear H
               have H := H1
               clear H1
               by_cases c79 : a2 < (-1073741824)
               · rw [if_pos c79] at H
                 have c79b0 : decide (a2 < (-1073741824)) = true := decide_eq_true c79
                 clear c79
                 replace H := Option.bind_eq_some_iff.mp H
                 obtain ⟨t623, A800, H⟩ := H
                 replace H : (some t623) = some r := H
                 have A80 := Aside0.mk A800
                 clear A800
                 obtain rfl := Option.some.inj H
                 try go_wp2
                 have gc0_ := fun p_ : Bel wc => Calls.bel_of (p := p_) (kimberlitelaw03_alive.calls  t623 _ A80.out)
                 have mixed_ : Try.prog.follows .mixedOrders = true := by kernel_rfl
                 refine wp_region_bel mixed_ (by kernel_rfl) ?_
                 repeat (go_big_quiet_step (fail))
                 go_big_quiet_step ((go_at_call 17; with_reducible exact gc0_ _))
                 repeat (go_big_quiet_step (fail))
                 refine wpQuiet_nil ?_
                 intro wq hw'
                 obtain ⟨pq, hw''⟩ := hw'
                 have hq := Bel.h pq
                 rw [← hw''] at hq
                 clear hw'' pq
                 clear gc0_
                 (try simp only [i64_w, i32_w])
                 have n0_ := Aside0.mk (blk_below BK601.out hq)
                 have n1_ := Aside0.mk (blk_below BK602.out hq)
                 have n2_ := Aside0.mk (below_step HB.out hq)
                 clear hq BK601 BK602 HB
                 have BK601 := n0_
                 have BK602 := n1_
                 have HB := n2_
                 clear n0_ n1_ n2_
                 try go_wp2
                 go_ret
                 exact ⟨by first | rfl | (simp [errW_none, errW_some] <;> rfl) | (simp [*, errW_none, errW_some] <;> rfl), nC HB⟩
               · rw [if_neg c79] at H
                 have c79b0 : decide (a2 < (-1073741824)) = false := decide_eq_false c79
                 clear c79
                 by_cases c83 : a2 > 1073741824
                 · rw [if_pos c83] at H
                   have c83b0 : decide (1073741824 < a2) = true := decide_eq_true c83
                   clear c83
                   replace H := Option.bind_eq_some_iff.mp H
                   obtain ⟨t624, A840, H⟩ := H
                   replace H : (some t624) = some r := H
                   have A84 := Aside0.mk A840
                   clear A840
                   obtain rfl := Option.some.inj H
                   try go_wp2
                   have gc0_ := fun p_ : Bel wc => Calls.bel_of (p := p_) (kimberlitelaw03_alive.calls  t624 _ A84.out)
                   have mixed_ : Try.prog.follows .mixedOrders = true := by kernel_rfl
                   refine wp_region_bel mixed_ (by kernel_rfl) ?_
                   repeat (go_big_quiet_step (fail))
                   go_big_quiet_step ((go_at_call 17; with_reducible exact gc0_ _))
                   repeat (go_big_quiet_step (fail))
                   refine wpQuiet_nil ?_
                   intro wq hw'
                   obtain ⟨pq, hw''⟩ := hw'
                   have hq := Bel.h pq
                   rw [← hw''] at hq
                   clear hw'' pq
                   clear gc0_
                   (try simp only [i64_w, i32_w])
                   have n0_ := Aside0.mk (blk_below BK601.out hq)
                   have n1_ := Aside0.mk (blk_below BK602.out hq)
                   have n2_ := Aside0.mk (below_step HB.out hq)
                   clear hq BK601 BK602 HB
                   have BK601 := n0_
                   have BK602 := n1_
                   have HB := n2_
                   clear n0_ n1_ n2_
                   try go_wp2
                   go_ret
                   exact ⟨by first | rfl | (simp [errW_none, errW_some] <;> rfl) | (simp [*, errW_none, errW_some] <;> rfl), nC HB⟩
                 · rw [if_neg c83] at H
                   have c83b0 : decide (1073741824 < a2) = false := decide_eq_false c83
                   clear c83
                   replace H := Option.bind_eq_some_iff.mp H
                   obtain ⟨t625, A870, H⟩ := H
                   replace H : ((kimberlitelaw03_greatest.f kj48 a1_0 a1_1 l1_2 (wrap64 (-a2))).bind fun t626 => (if (wrap64 (-(wrap64 (t625 + t626)))) ≤ t603 then ((kimberlitelaw03_alive.f).bind fun t627 => (some t627)) else (some false))) = some r := H
                   have A87 := Aside0.mk A870
                   clear A870
                   replace H := Option.bind_eq_some_iff.mp H
                   obtain ⟨t626, A880, H⟩ := H
                   replace H : (if (wrap64 (-(wrap64 (t625 + t626)))) ≤ t603 then ((kimberlitelaw03_alive.f).bind fun t627 => (some t627)) else (some false)) = some r := H
                   have A88 := Aside0.mk A880
                   clear A880
                   by_cases c89 : (wrap64 (-(wrap64 (t625 + t626)))) ≤ t603
                   · rw [if_pos c89] at H
                     have c89b0 : decide ((wrap64 (-(wrap64 (t625 + t626)))) ≤ t603) = true := decide_eq_true c89
                     clear c89
                     replace H := Option.bind_eq_some_iff.mp H
                     obtain ⟨t627, A900, H⟩ := H
                     replace H : (some t627) = some r := H
                     have A90 := Aside0.mk A900
                     clear A900
                     obtain rfl := Option.some.inj H
                     try go_wp2
                     have gz0_ : ∀ p : Bel wc, p.W.cell? ⟨gb601, 0, none⟩ = some (.int .i64 a0_0) := Bel.cell ((blk_cell BK601.out 0).trans rfl)
                     have gz1_ : ∀ p : Bel wc, p.W.cell? ⟨gb601, 1, none⟩ = some (.int .i64 a0_1) := Bel.cell ((blk_cell BK601.out 1).trans rfl)
                     have gz2_ : ∀ p : Bel wc, p.W.cell? ⟨gb601, 2, none⟩ = some (.slice A0_2 l0_2.length c0_2) := Bel.cell ((blk_cell BK601.out 2).trans rfl)
                     have gz3_ : ∀ p : Bel wc, p.W.cell? ⟨gb602, 0, none⟩ = some (.int .i64 a1_0) := Bel.cell ((blk_cell BK602.out 0).trans rfl)
                     have gz4_ : ∀ p : Bel wc, p.W.cell? ⟨gb602, 1, none⟩ = some (.int .i64 a1_1) := Bel.cell ((blk_cell BK602.out 1).trans rfl)
                     have gz5_ : ∀ p : Bel wc, p.W.cell? ⟨gb602, 2, none⟩ = some (.slice A1_2 l1_2.length c1_2) := Bel.cell ((blk_cell BK602.out 2).trans rfl)
                     have gc0_ := fun p_ : Bel wc => Calls.bel_of (p := p_) (kimberlitelaw03_greatest.calls kj48 a0_0 a0_1 _ _ l0_2 a2 t625 _ (Kd.C_below (Kd.C_below HR0_2.out HB.out) (Bel.h p_)) HC0_2.out A87.out)
                     have gc1_ := fun p_ : Bel wc => Calls.bel_of (p := p_) (kimberlitelaw03_greatest.calls kj48 a1_0 a1_1 _ _ l1_2 (wrap64 (-a2)) t626 _ (Kd.C_below (Kd.C_below HR1_2.out HB.out) (Bel.h p_)) HC1_2.out A88.out)
                     have gc2_ := fun p_ : Bel wc => Calls.bel_of (p := p_) (kimberlitelaw03_alive.calls  t627 _ A90.out)
                     have mixed_ : Try.prog.follows .mixedOrders = true := by kernel_rfl
                     refine wp_region_bel mixed_ (by kernel_rfl) ?_
                     repeat (go_big_quiet_step (fail))
                     go_big_quiet_step ((go_at_call 21; with_reducible exact gc0_ _))
                     repeat (go_big_quiet_step (fail))
                     go_big_quiet_step ((go_at_call 21; with_reducible exact gc1_ _))
                     repeat (go_big_quiet_step (fail))
                     go_big_quiet_step ((go_at_call 17; with_reducible exact gc2_ _))
                     repeat (go_big_quiet_step (fail))
                     refine wpQuiet_nil ?_
                     intro wq hw'
                     obtain ⟨pq, hw''⟩ := hw'
                     have hq := Bel.h pq
                     rw [← hw''] at hq
                     clear hw'' pq
                     clear gc0_
                     clear gc1_
                     clear gc2_
                     (try simp only [i64_w, i32_w])
                     clear gz0_ gz1_ gz2_ gz3_ gz4_ gz5_
                     have n0_ := Aside0.mk (blk_below BK601.out hq)
                     have n1_ := Aside0.mk (blk_below BK602.out hq)
                     have n2_ := Aside0.mk (below_step HB.out hq)
                     clear hq BK601 BK602 HB
                     have BK601 := n0_
                     have BK602 := n1_
                     have HB := n2_
                     clear n0_ n1_ n2_
                     try go_wp2
                     go_ret
                     exact ⟨by first | rfl | (simp [errW_none, errW_some] <;> rfl) | (simp [*, errW_none, errW_some] <;> rfl), nC HB⟩
                   · rw [if_neg c89] at H
                     have c89b0 : decide ((wrap64 (-(wrap64 (t625 + t626)))) ≤ t603) = false := decide_eq_false c89
                     clear c89
                     obtain rfl := Option.some.inj H
                     try go_wp2
                     have gz0_ : ∀ p : Bel wc, p.W.cell? ⟨gb601, 0, none⟩ = some (.int .i64 a0_0) := Bel.cell ((blk_cell BK601.out 0).trans rfl)
                     have gz1_ : ∀ p : Bel wc, p.W.cell? ⟨gb601, 1, none⟩ = some (.int .i64 a0_1) := Bel.cell ((blk_cell BK601.out 1).trans rfl)
                     have gz2_ : ∀ p : Bel wc, p.W.cell? ⟨gb601, 2, none⟩ = some (.slice A0_2 l0_2.length c0_2) := Bel.cell ((blk_cell BK601.out 2).trans rfl)
                     have gz3_ : ∀ p : Bel wc, p.W.cell? ⟨gb602, 0, none⟩ = some (.int .i64 a1_0) := Bel.cell ((blk_cell BK602.out 0).trans rfl)
                     have gz4_ : ∀ p : Bel wc, p.W.cell? ⟨gb602, 1, none⟩ = some (.int .i64 a1_1) := Bel.cell ((blk_cell BK602.out 1).trans rfl)
                     have gz5_ : ∀ p : Bel wc, p.W.cell? ⟨gb602, 2, none⟩ = some (.slice A1_2 l1_2.length c1_2) := Bel.cell ((blk_cell BK602.out 2).trans rfl)
                     have gc0_ := fun p_ : Bel wc => Calls.bel_of (p := p_) (kimberlitelaw03_greatest.calls kj48 a0_0 a0_1 _ _ l0_2 a2 t625 _ (Kd.C_below (Kd.C_below HR0_2.out HB.out) (Bel.h p_)) HC0_2.out A87.out)
                     have gc1_ := fun p_ : Bel wc => Calls.bel_of (p := p_) (kimberlitelaw03_greatest.calls kj48 a1_0 a1_1 _ _ l1_2 (wrap64 (-a2)) t626 _ (Kd.C_below (Kd.C_below HR1_2.out HB.out) (Bel.h p_)) HC1_2.out A88.out)
                     have mixed_ : Try.prog.follows .mixedOrders = true := by kernel_rfl
                     refine wp_region_bel mixed_ (by kernel_rfl) ?_
                     repeat (go_big_quiet_step (fail))
                     go_big_quiet_step ((go_at_call 21; with_reducible exact gc0_ _))
                     repeat (go_big_quiet_step (fail))
                     go_big_quiet_step ((go_at_call 21; with_reducible exact gc1_ _))
                     repeat (go_big_quiet_step (fail))
                     refine wpQuiet_nil ?_
                     intro wq hw'
                     obtain ⟨pq, hw''⟩ := hw'
                     have hq := Bel.h pq
                     rw [← hw''] at hq
                     clear hw'' pq
                     clear gc0_
                     clear gc1_
                     (try simp only [i64_w, i32_w])
                     clear gz0_ gz1_ gz2_ gz3_ gz4_ gz5_
                     have n0_ := Aside0.mk (blk_below BK601.out hq)
                     have n1_ := Aside0.mk (blk_below BK602.out hq)
                     have n2_ := Aside0.mk (below_step HB.out hq)
                     clear hq BK601 BK602 HB
                     have BK601 := n0_
                     have BK602 := n1_
                     have HB := n2_
                     clear n0_ n1_ n2_
                     try go_wp2
                     go_ret
                     exact ⟨by first | rfl | (simp [errW_none, errW_some] <;> rfl) | (simp [*, errW_none, errW_some] <;> rfl), nC HB⟩
 · rw [if_neg c6] at H
   have c6b0 : (t606 == 0) = false := beq_eq_false_iff_ne.mpr c6
   have c6b1 : (t606 != 0) = true := bne_iff_ne.mpr c6
   by_cases c98 : t603 = 0
   · rw [if_pos c98] at H
     have c98b0 : (t603 == 0) = true := beq_iff_eq.mpr c98
     have c98b1 : (t603 != 0) = false := bne_eq_false_iff_eq.mpr c98
     clear c98
     by_cases c99 : t604 = 0
     · rw [if_pos c99] at H
       have c99b0 : (t604 == 0) = true := beq_iff_eq.mpr c99
       have c99b1 : (t604 != 0) = false := bne_eq_false_iff_eq.mpr c99
       clear c99
       by_cases c100 : t605 = 0
       · rw [if_pos c100] at H
         have c100b0 : (t605 == 0) = true := beq_iff_eq.mpr c100
         have c100b1 : (t605 != 0) = false := bne_eq_false_iff_eq.mpr c100
         clear c100
         replace H := Option.bind_eq_some_iff.mp H
         obtain ⟨t607, A1010, H⟩ := H
         replace H : (some t607) = some r := H
         have A101 := Aside0.mk A1010
         clear A1010
         obtain rfl := Option.some.inj H
         go_enter Try.func7, Try.ntmps7
         go_wp2_with (first | ((with_reducible refine gate_dst (N := 4) rfl ?_); refine box_event ?hg (N := 4) ?hd (cs := #[.int .i64 a0_0, .int .i64 a0_1, .slice A0_2 l0_2.length c0_2]) (t := 24) ?hr ?_; (case hd => rfl); (case hg => rfl); (case hr => first | (go_simp; done) | (go_simp; rfl)); intro gb601 hg w102 hbox hb; have n0_ := Aside0.mk (below_step (nC HB) hb); have n1_ := Aside0.mk (hbox); have n2_ := Aside0.mk ((by rw [hg]; exact (below_size (nC HB)) : w.heap.size ≤ gb601)); have n3_ := Aside0.mk ((by rw [hg]; exact (below_size (nC HB)) : w.heap.size ≤ gb601)); clear HB; have HB := n0_; have BK601 := n1_; have GW601 := n2_; have GE601 := n3_; clear n0_ n1_ n2_ n3_; clear hb hbox hg) | ((with_reducible refine gate_dst (N := 5) rfl ?_); refine box_event ?hg (N := 5) ?hd (cs := #[.int .i64 a1_0, .int .i64 a1_1, .slice A1_2 l1_2.length c1_2]) (t := 24) ?hr ?_; (case hd => rfl); (case hg => rfl); (case hr => first | (go_simp; done) | (go_simp; rfl)); intro gb602 hg w103 hbox hb; have n0_ := Aside0.mk (nB BK601 hb); have n1_ := Aside0.mk (below_step (nC HB) hb); have n2_ := Aside0.mk (hbox); have n3_ := Aside0.mk ((by rw [hg]; exact (below_size (nC HB)) : w.heap.size ≤ gb602)); have n4_ := Aside0.mk ((by rw [hg]; exact (below_size (nC HB)) : w.heap.size ≤ gb602)); have n5_ := Aside0.mk ((by rw [hg]; exact Nat.ne_of_lt (blk_lt (g := gb601) (o := .cells #[.int .i64 a0_0, .int .i64 a0_1, .slice A0_2 l0_2.length c0_2] 24 (0, 0)) (nK BK601)) : gb601 ≠ gb602)); have n6_ := Aside0.mk ((by rw [hg]; exact Nat.ne_of_gt (blk_lt (g := gb601) (o := .cells #[.int .i64 a0_0, .int .i64 a0_1, .slice A0_2 l0_2.length c0_2] 24 (0, 0)) (nK BK601)) : gb602 ≠ gb601)); clear BK601; clear HB; have BK601 := n0_; have HB := n1_; have BK602 := n2_; have GW602 := n3_; have GE602 := n4_; have NB601_602 := n5_; have NB602_601 := n6_; clear n0_ n1_ n2_ n3_ n4_ n5_ n6_; clear hb hbox hg; have hnb104 := NB601_602.out; have hnc104 := NB602_601.out; have hcz105_0 : w103.cell? ⟨gb601, 0, none⟩ = some (.int .i64 a0_0) := (blk_cell BK601.out 0).trans rfl; have hcz105_1 : w103.cell? ⟨gb601, 1, none⟩ = some (.int .i64 a0_1) := (blk_cell BK601.out 1).trans rfl; have hcz105_2 : w103.cell? ⟨gb601, 2, none⟩ = some (.slice A0_2 l0_2.length c0_2) := (blk_cell BK601.out 2).trans rfl; have hfz105_0 := blk_frozen BK601.out 0; have hfz105_1 := blk_frozen BK601.out 1; have hfz105_2 := blk_frozen BK601.out 2; have hcz106_0 : w103.cell? ⟨gb602, 0, none⟩ = some (.int .i64 a1_0) := (blk_cell BK602.out 0).trans rfl; have hcz106_1 : w103.cell? ⟨gb602, 1, none⟩ = some (.int .i64 a1_1) := (blk_cell BK602.out 1).trans rfl; have hcz106_2 : w103.cell? ⟨gb602, 2, none⟩ = some (.slice A1_2 l1_2.length c1_2) := (blk_cell BK602.out 2).trans rfl; have hfz106_0 := blk_frozen BK602.out 0; have hfz106_1 := blk_frozen BK602.out 1; have hfz106_2 := blk_frozen BK602.out 2) | ((with_reducible refine gate_callee (f := 25) rfl ?_); refine goesL_ (some 24) rfl rfl Try.func25 (by kernel_rfl) rfl #[.agg #[.int .i64 a0_0, .int .i64 a0_1, .slice A0_2 l0_2.length c0_2], .agg #[.int .i64 a1_0, .int .i64 a1_1, .slice A1_2 l1_2.length c1_2]] rfl (by (try simp only [List.map_toArray, List.map_cons, List.map_nil]); first | done | rfl | (simp only [List.length_drop, List.length_take]; rfl)) ?_; (with_reducible refine (curve_Meet.calls k a0_0 a0_1 _ _ l0_2 a1_0 a1_1 _ _ l1_2 t603 t604 t605 t606 _ ?side1 ?side2 ?side3 ?side4 A5.out).mono ?_); (case side1 => repeat (first | exact (Kd.C_below HR0_2.out HB.out) | (with_reducible refine Kd.C_alloc ?_ _) | (with_reducible refine Kd.C_drewN ?_ _) | (with_reducible refine Kd.C_drew ?_))); (case side2 => exact HC0_2.out); (case side3 => repeat (first | exact (Kd.C_below HR1_2.out HB.out) | (with_reducible refine Kd.C_alloc ?_ _) | (with_reducible refine Kd.C_drewN ?_ _) | (with_reducible refine Kd.C_drew ?_))); (case side4 => exact HC1_2.out); rintro e w107 ⟨rfl, hb⟩; refine ⟨_, rfl, ?_⟩; have n0_ := Aside0.mk (nB BK601 hb); have n1_ := Aside0.mk (nB BK602 hb); have n2_ := Aside0.mk (below_step (nC HB) hb); clear BK601; clear BK602; clear HB; have BK601 := n0_; have BK602 := n1_; have HB := n2_; clear n0_ n1_ n2_; (try clear hb); (try clear hb2); (try clear hk); (try clear hi)) | (go_at_call 17; (with_reducible refine (kimberlitelaw03_alive.calls  t607 _ A101.out).mono ?_); rintro e w108 ⟨rfl, hb⟩; have n0_ := Aside0.mk (nB BK601 hb); have n1_ := Aside0.mk (nB BK602 hb); have n2_ := Aside0.mk (below_step (nC HB) hb); clear BK601; clear BK602; clear HB; have BK601 := n0_; have BK602 := n1_; have HB := n2_; clear n0_ n1_ n2_; (try clear hb); (try clear hb2); (try clear hk); (try clear hi)))
         go_ret
         exact ⟨by first | rfl | (simp [errW_none, errW_some] <;> rfl) | (simp [*, errW_none, errW_some] <;> rfl), nC HB⟩
       · rw [if_neg c100] at H
         have c100b0 : (t605 == 0) = false := beq_eq_false_iff_ne.mpr c100
         have c100b1 : (t605 != 0) = true := bne_iff_ne.mpr c100
         obtain rfl := Option.some.inj H
         go_enter Try.func7, Try.ntmps7
         go_wp2_with (first | ((with_reducible refine gate_dst (N := 4) rfl ?_); refine box_event ?hg (N := 4) ?hd (cs := #[.int .i64 a0_0, .int .i64 a0_1, .slice A0_2 l0_2.length c0_2]) (t := 24) ?hr ?_; (case hd => rfl); (case hg => rfl); (case hr => first | (go_simp; done) | (go_simp; rfl)); intro gb601 hg w109 hbox hb; have n0_ := Aside0.mk (below_step (nC HB) hb); have n1_ := Aside0.mk (hbox); have n2_ := Aside0.mk ((by rw [hg]; exact (below_size (nC HB)) : w.heap.size ≤ gb601)); have n3_ := Aside0.mk ((by rw [hg]; exact (below_size (nC HB)) : w.heap.size ≤ gb601)); clear HB; have HB := n0_; have BK601 := n1_; have GW601 := n2_; have GE601 := n3_; clear n0_ n1_ n2_ n3_; clear hb hbox hg) | ((with_reducible refine gate_dst (N := 5) rfl ?_); refine box_event ?hg (N := 5) ?hd (cs := #[.int .i64 a1_0, .int .i64 a1_1, .slice A1_2 l1_2.length c1_2]) (t := 24) ?hr ?_; (case hd => rfl); (case hg => rfl); (case hr => first | (go_simp; done) | (go_simp; rfl)); intro gb602 hg w110 hbox hb; have n0_ := Aside0.mk (nB BK601 hb); have n1_ := Aside0.mk (below_step (nC HB) hb); have n2_ := Aside0.mk (hbox); have n3_ := Aside0.mk ((by rw [hg]; exact (below_size (nC HB)) : w.heap.size ≤ gb602)); have n4_ := Aside0.mk ((by rw [hg]; exact (below_size (nC HB)) : w.heap.size ≤ gb602)); have n5_ := Aside0.mk ((by rw [hg]; exact Nat.ne_of_lt (blk_lt (g := gb601) (o := .cells #[.int .i64 a0_0, .int .i64 a0_1, .slice A0_2 l0_2.length c0_2] 24 (0, 0)) (nK BK601)) : gb601 ≠ gb602)); have n6_ := Aside0.mk ((by rw [hg]; exact Nat.ne_of_gt (blk_lt (g := gb601) (o := .cells #[.int .i64 a0_0, .int .i64 a0_1, .slice A0_2 l0_2.length c0_2] 24 (0, 0)) (nK BK601)) : gb602 ≠ gb601)); clear BK601; clear HB; have BK601 := n0_; have HB := n1_; have BK602 := n2_; have GW602 := n3_; have GE602 := n4_; have NB601_602 := n5_; have NB602_601 := n6_; clear n0_ n1_ n2_ n3_ n4_ n5_ n6_; clear hb hbox hg; have hnb111 := NB601_602.out; have hnc111 := NB602_601.out; have hcz112_0 : w110.cell? ⟨gb601, 0, none⟩ = some (.int .i64 a0_0) := (blk_cell BK601.out 0).trans rfl; have hcz112_1 : w110.cell? ⟨gb601, 1, none⟩ = some (.int .i64 a0_1) := (blk_cell BK601.out 1).trans rfl; have hcz112_2 : w110.cell? ⟨gb601, 2, none⟩ = some (.slice A0_2 l0_2.length c0_2) := (blk_cell BK601.out 2).trans rfl; have hfz112_0 := blk_frozen BK601.out 0; have hfz112_1 := blk_frozen BK601.out 1; have hfz112_2 := blk_frozen BK601.out 2; have hcz113_0 : w110.cell? ⟨gb602, 0, none⟩ = some (.int .i64 a1_0) := (blk_cell BK602.out 0).trans rfl; have hcz113_1 : w110.cell? ⟨gb602, 1, none⟩ = some (.int .i64 a1_1) := (blk_cell BK602.out 1).trans rfl; have hcz113_2 : w110.cell? ⟨gb602, 2, none⟩ = some (.slice A1_2 l1_2.length c1_2) := (blk_cell BK602.out 2).trans rfl; have hfz113_0 := blk_frozen BK602.out 0; have hfz113_1 := blk_frozen BK602.out 1; have hfz113_2 := blk_frozen BK602.out 2) | ((with_reducible refine gate_callee (f := 25) rfl ?_); refine goesL_ (some 24) rfl rfl Try.func25 (by kernel_rfl) rfl #[.agg #[.int .i64 a0_0, .int .i64 a0_1, .slice A0_2 l0_2.length c0_2], .agg #[.int .i64 a1_0, .int .i64 a1_1, .slice A1_2 l1_2.length c1_2]] rfl (by (try simp only [List.map_toArray, List.map_cons, List.map_nil]); first | done | rfl | (simp only [List.length_drop, List.length_take]; rfl)) ?_; (with_reducible refine (curve_Meet.calls k a0_0 a0_1 _ _ l0_2 a1_0 a1_1 _ _ l1_2 t603 t604 t605 t606 _ ?side1 ?side2 ?side3 ?side4 A5.out).mono ?_); (case side1 => repeat (first | exact (Kd.C_below HR0_2.out HB.out) | (with_reducible refine Kd.C_alloc ?_ _) | (with_reducible refine Kd.C_drewN ?_ _) | (with_reducible refine Kd.C_drew ?_))); (case side2 => exact HC0_2.out); (case side3 => repeat (first | exact (Kd.C_below HR1_2.out HB.out) | (with_reducible refine Kd.C_alloc ?_ _) | (with_reducible refine Kd.C_drewN ?_ _) | (with_reducible refine Kd.C_drew ?_))); (case side4 => exact HC1_2.out); rintro e w114 ⟨rfl, hb⟩; refine ⟨_, rfl, ?_⟩; have n0_ := Aside0.mk (nB BK601 hb); have n1_ := Aside0.mk (nB BK602 hb); have n2_ := Aside0.mk (below_step (nC HB) hb); clear BK601; clear BK602; clear HB; have BK601 := n0_; have BK602 := n1_; have HB := n2_; clear n0_ n1_ n2_; (try clear hb); (try clear hb2); (try clear hk); (try clear hi)))
         go_ret
         exact ⟨by first | rfl | (simp [errW_none, errW_some] <;> rfl) | (simp [*, errW_none, errW_some] <;> rfl), nC HB⟩
     · rw [if_neg c99] at H
       have c99b0 : (t604 == 0) = false := beq_eq_false_iff_ne.mpr c99
       have c99b1 : (t604 != 0) = true := bne_iff_ne.mpr c99
       obtain rfl := Option.some.inj H
       go_enter Try.func7, Try.ntmps7
       go_wp2_with (first | ((with_reducible refine gate_dst (N := 4) rfl ?_); refine box_event ?hg (N := 4) ?hd (cs := #[.int .i64 a0_0, .int .i64 a0_1, .slice A0_2 l0_2.length c0_2]) (t := 24) ?hr ?_; (case hd => rfl); (case hg => rfl); (case hr => first | (go_simp; done) | (go_simp; rfl)); intro gb601 hg w115 hbox hb; have n0_ := Aside0.mk (below_step (nC HB) hb); have n1_ := Aside0.mk (hbox); have n2_ := Aside0.mk ((by rw [hg]; exact (below_size (nC HB)) : w.heap.size ≤ gb601)); have n3_ := Aside0.mk ((by rw [hg]; exact (below_size (nC HB)) : w.heap.size ≤ gb601)); clear HB; have HB := n0_; have BK601 := n1_; have GW601 := n2_; have GE601 := n3_; clear n0_ n1_ n2_ n3_; clear hb hbox hg) | ((with_reducible refine gate_dst (N := 5) rfl ?_); refine box_event ?hg (N := 5) ?hd (cs := #[.int .i64 a1_0, .int .i64 a1_1, .slice A1_2 l1_2.length c1_2]) (t := 24) ?hr ?_; (case hd => rfl); (case hg => rfl); (case hr => first | (go_simp; done) | (go_simp; rfl)); intro gb602 hg w116 hbox hb; have n0_ := Aside0.mk (nB BK601 hb); have n1_ := Aside0.mk (below_step (nC HB) hb); have n2_ := Aside0.mk (hbox); have n3_ := Aside0.mk ((by rw [hg]; exact (below_size (nC HB)) : w.heap.size ≤ gb602)); have n4_ := Aside0.mk ((by rw [hg]; exact (below_size (nC HB)) : w.heap.size ≤ gb602)); have n5_ := Aside0.mk ((by rw [hg]; exact Nat.ne_of_lt (blk_lt (g := gb601) (o := .cells #[.int .i64 a0_0, .int .i64 a0_1, .slice A0_2 l0_2.length c0_2] 24 (0, 0)) (nK BK601)) : gb601 ≠ gb602)); have n6_ := Aside0.mk ((by rw [hg]; exact Nat.ne_of_gt (blk_lt (g := gb601) (o := .cells #[.int .i64 a0_0, .int .i64 a0_1, .slice A0_2 l0_2.length c0_2] 24 (0, 0)) (nK BK601)) : gb602 ≠ gb601)); clear BK601; clear HB; have BK601 := n0_; have HB := n1_; have BK602 := n2_; have GW602 := n3_; have GE602 := n4_; have NB601_602 := n5_; have NB602_601 := n6_; clear n0_ n1_ n2_ n3_ n4_ n5_ n6_; clear hb hbox hg; have hnb117 := NB601_602.out; have hnc117 := NB602_601.out; have hcz118_0 : w116.cell? ⟨gb601, 0, none⟩ = some (.int .i64 a0_0) := (blk_cell BK601.out 0).trans rfl; have hcz118_1 : w116.cell? ⟨gb601, 1, none⟩ = some (.int .i64 a0_1) := (blk_cell BK601.out 1).trans rfl; have hcz118_2 : w116.cell? ⟨gb601, 2, none⟩ = some (.slice A0_2 l0_2.length c0_2) := (blk_cell BK601.out 2).trans rfl; have hfz118_0 := blk_frozen BK601.out 0; have hfz118_1 := blk_frozen BK601.out 1; have hfz118_2 := blk_frozen BK601.out 2; have hcz119_0 : w116.cell? ⟨gb602, 0, none⟩ = some (.int .i64 a1_0) := (blk_cell BK602.out 0).trans rfl; have hcz119_1 : w116.cell? ⟨gb602, 1, none⟩ = some (.int .i64 a1_1) := (blk_cell BK602.out 1).trans rfl; have hcz119_2 : w116.cell? ⟨gb602, 2, none⟩ = some (.slice A1_2 l1_2.length c1_2) := (blk_cell BK602.out 2).trans rfl; have hfz119_0 := blk_frozen BK602.out 0; have hfz119_1 := blk_frozen BK602.out 1; have hfz119_2 := blk_frozen BK602.out 2) | ((with_reducible refine gate_callee (f := 25) rfl ?_); refine goesL_ (some 24) rfl rfl Try.func25 (by kernel_rfl) rfl #[.agg #[.int .i64 a0_0, .int .i64 a0_1, .slice A0_2 l0_2.length c0_2], .agg #[.int .i64 a1_0, .int .i64 a1_1, .slice A1_2 l1_2.length c1_2]] rfl (by (try simp only [List.map_toArray, List.map_cons, List.map_nil]); first | done | rfl | (simp only [List.length_drop, List.length_take]; rfl)) ?_; (with_reducible refine (curve_Meet.calls k a0_0 a0_1 _ _ l0_2 a1_0 a1_1 _ _ l1_2 t603 t604 t605 t606 _ ?side1 ?side2 ?side3 ?side4 A5.out).mono ?_); (case side1 => repeat (first | exact (Kd.C_below HR0_2.out HB.out) | (with_reducible refine Kd.C_alloc ?_ _) | (with_reducible refine Kd.C_drewN ?_ _) | (with_reducible refine Kd.C_drew ?_))); (case side2 => exact HC0_2.out); (case side3 => repeat (first | exact (Kd.C_below HR1_2.out HB.out) | (with_reducible refine Kd.C_alloc ?_ _) | (with_reducible refine Kd.C_drewN ?_ _) | (with_reducible refine Kd.C_drew ?_))); (case side4 => exact HC1_2.out); rintro e w120 ⟨rfl, hb⟩; refine ⟨_, rfl, ?_⟩; have n0_ := Aside0.mk (nB BK601 hb); have n1_ := Aside0.mk (nB BK602 hb); have n2_ := Aside0.mk (below_step (nC HB) hb); clear BK601; clear BK602; clear HB; have BK601 := n0_; have BK602 := n1_; have HB := n2_; clear n0_ n1_ n2_; (try clear hb); (try clear hb2); (try clear hk); (try clear hi)))
       go_ret
       exact ⟨by first | rfl | (simp [errW_none, errW_some] <;> rfl) | (simp [*, errW_none, errW_some] <;> rfl), nC HB⟩
   · rw [if_neg c98] at H
     have c98b0 : (t603 == 0) = false := beq_eq_false_iff_ne.mpr c98
     have c98b1 : (t603 != 0) = true := bne_iff_ne.mpr c98
     obtain rfl := Option.some.inj H
     go_enter Try.func7, Try.ntmps7
     go_wp2_with (first | ((with_reducible refine gate_dst (N := 4) rfl ?_); refine box_event ?hg (N := 4) ?hd (cs := #[.int .i64 a0_0, .int .i64 a0_1, .slice A0_2 l0_2.length c0_2]) (t := 24) ?hr ?_; (case hd => rfl); (case hg => rfl); (case hr => first | (go_simp; done) | (go_simp; rfl)); intro gb601 hg w121 hbox hb; have n0_ := Aside0.mk (below_step (nC HB) hb); have n1_ := Aside0.mk (hbox); have n2_ := Aside0.mk ((by rw [hg]; exact (below_size (nC HB)) : w.heap.size ≤ gb601)); have n3_ := Aside0.mk ((by rw [hg]; exact (below_size (nC HB)) : w.heap.size ≤ gb601)); clear HB; have HB := n0_; have BK601 := n1_; have GW601 := n2_; have GE601 := n3_; clear n0_ n1_ n2_ n3_; clear hb hbox hg) | ((with_reducible refine gate_dst (N := 5) rfl ?_); refine box_event ?hg (N := 5) ?hd (cs := #[.int .i64 a1_0, .int .i64 a1_1, .slice A1_2 l1_2.length c1_2]) (t := 24) ?hr ?_; (case hd => rfl); (case hg => rfl); (case hr => first | (go_simp; done) | (go_simp; rfl)); intro gb602 hg w122 hbox hb; have n0_ := Aside0.mk (nB BK601 hb); have n1_ := Aside0.mk (below_step (nC HB) hb); have n2_ := Aside0.mk (hbox); have n3_ := Aside0.mk ((by rw [hg]; exact (below_size (nC HB)) : w.heap.size ≤ gb602)); have n4_ := Aside0.mk ((by rw [hg]; exact (below_size (nC HB)) : w.heap.size ≤ gb602)); have n5_ := Aside0.mk ((by rw [hg]; exact Nat.ne_of_lt (blk_lt (g := gb601) (o := .cells #[.int .i64 a0_0, .int .i64 a0_1, .slice A0_2 l0_2.length c0_2] 24 (0, 0)) (nK BK601)) : gb601 ≠ gb602)); have n6_ := Aside0.mk ((by rw [hg]; exact Nat.ne_of_gt (blk_lt (g := gb601) (o := .cells #[.int .i64 a0_0, .int .i64 a0_1, .slice A0_2 l0_2.length c0_2] 24 (0, 0)) (nK BK601)) : gb602 ≠ gb601)); clear BK601; clear HB; have BK601 := n0_; have HB := n1_; have BK602 := n2_; have GW602 := n3_; have GE602 := n4_; have NB601_602 := n5_; have NB602_601 := n6_; clear n0_ n1_ n2_ n3_ n4_ n5_ n6_; clear hb hbox hg; have hnb123 := NB601_602.out; have hnc123 := NB602_601.out; have hcz124_0 : w122.cell? ⟨gb601, 0, none⟩ = some (.int .i64 a0_0) := (blk_cell BK601.out 0).trans rfl; have hcz124_1 : w122.cell? ⟨gb601, 1, none⟩ = some (.int .i64 a0_1) := (blk_cell BK601.out 1).trans rfl; have hcz124_2 : w122.cell? ⟨gb601, 2, none⟩ = some (.slice A0_2 l0_2.length c0_2) := (blk_cell BK601.out 2).trans rfl; have hfz124_0 := blk_frozen BK601.out 0; have hfz124_1 := blk_frozen BK601.out 1; have hfz124_2 := blk_frozen BK601.out 2; have hcz125_0 : w122.cell? ⟨gb602, 0, none⟩ = some (.int .i64 a1_0) := (blk_cell BK602.out 0).trans rfl; have hcz125_1 : w122.cell? ⟨gb602, 1, none⟩ = some (.int .i64 a1_1) := (blk_cell BK602.out 1).trans rfl; have hcz125_2 : w122.cell? ⟨gb602, 2, none⟩ = some (.slice A1_2 l1_2.length c1_2) := (blk_cell BK602.out 2).trans rfl; have hfz125_0 := blk_frozen BK602.out 0; have hfz125_1 := blk_frozen BK602.out 1; have hfz125_2 := blk_frozen BK602.out 2) | ((with_reducible refine gate_callee (f := 25) rfl ?_); refine goesL_ (some 24) rfl rfl Try.func25 (by kernel_rfl) rfl #[.agg #[.int .i64 a0_0, .int .i64 a0_1, .slice A0_2 l0_2.length c0_2], .agg #[.int .i64 a1_0, .int .i64 a1_1, .slice A1_2 l1_2.length c1_2]] rfl (by (try simp only [List.map_toArray, List.map_cons, List.map_nil]); first | done | rfl | (simp only [List.length_drop, List.length_take]; rfl)) ?_; (with_reducible refine (curve_Meet.calls k a0_0 a0_1 _ _ l0_2 a1_0 a1_1 _ _ l1_2 t603 t604 t605 t606 _ ?side1 ?side2 ?side3 ?side4 A5.out).mono ?_); (case side1 => repeat (first | exact (Kd.C_below HR0_2.out HB.out) | (with_reducible refine Kd.C_alloc ?_ _) | (with_reducible refine Kd.C_drewN ?_ _) | (with_reducible refine Kd.C_drew ?_))); (case side2 => exact HC0_2.out); (case side3 => repeat (first | exact (Kd.C_below HR1_2.out HB.out) | (with_reducible refine Kd.C_alloc ?_ _) | (with_reducible refine Kd.C_drewN ?_ _) | (with_reducible refine Kd.C_drew ?_))); (case side4 => exact HC1_2.out); rintro e w126 ⟨rfl, hb⟩; refine ⟨_, rfl, ?_⟩; have n0_ := Aside0.mk (nB BK601 hb); have n1_ := Aside0.mk (nB BK602 hb); have n2_ := Aside0.mk (below_step (nC HB) hb); clear BK601; clear BK602; clear HB; have BK601 := n0_; have BK602 := n1_; have HB := n2_; clear n0_ n1_ n2_; (try clear hb); (try clear hb2); (try clear hk); (try clear hi)))
     go_ret
     exact ⟨by first | rfl | (simp [errW_none, errW_some] <;> rfl) | (simp [*, errW_none, errW_some] <;> rfl), nC HB⟩
end Go.Proofs.Ytingjpcgehgiiaa.Pr
end
section
namespace Go.Proofs.Ytingjpcgehgiiaa.Pr
open Go.RowKit Go.Proofs.YtingjpcgehgiiaaW.PrintWords Go.Proofs.YtingjpcgehgiiaaW.PrintLast Go.Proofs.YtingjpcgehgiiaaW.PrintMore
set_option linter.unusedVariables false
set_option linter.unusedSimpArgs false
theorem neg_w {p : Int} (h : -1073741824 ≤ p ∧ p ≤ 1073741824) : wrap64 (-p) = -p := by unfold wrap64; omega
theorem sum_w {s t : Int} (hs : -2252899392421889 ≤ s ∧ s ≤ 2252899392421889) (ht : -2252899392421889 ≤ t ∧ t ≤ 2252899392421889) : wrap64 (s + t) = s + t ∧ wrap64 (-(wrap64 (s + t))) = -(s + t) := by
  have e : wrap64 (s + t) = s + t := by unfold wrap64; omega
  rw [e]
  refine ⟨rfl, ?_⟩
  unfold wrap64
  omega
theorem fenchel_j2 {a b : S24} {x : Int} (va : Vc a) (vb : Vc b) (h : Low a b x) (q : Int) : Ev (fun k => kimberlitelaw03_CurveFenchel.j2 k q (two a b x) false a.f0 a.f1 a.f2 b.f0 b.f1 b.f2) true := by
  by_cases h1 : q < -1073741824
  · refine Ev.step (f := fun _ => some true) (fun k => ?_) (Ev.now _)
    simp only [kimberlitelaw03_CurveFenchel.j2]
    rw [if_neg (by simp), if_pos h1]
    rfl
  · by_cases h2 : q > 1073741824
    · refine Ev.step (f := fun _ => some true) (fun k => ?_) (Ev.now _)
      simp only [kimberlitelaw03_CurveFenchel.j2]
      rw [if_neg (by simp), if_neg h1, if_pos h2]
      rfl
    · have hq : -1073741824 ≤ q ∧ q ≤ 1073741824 := by omega
      have hq2 : -1073741824 ≤ -q ∧ -q ≤ 1073741824 := by omega
      have ga := gC_bound va hq
      have gb := gC_bound vb hq2
      have y1 := young q h.ina
      have y2 := young (-q) h.inb
      rw [Int.neg_mul] at y2
      have hle : -(gC a q + gC b (-q)) ≤ two a b x := by unfold two; omega
      have sw := (sum_w (s := gC a q) (t := gC b (-q)) (by omega) (by omega)).2
      refine Ev.step (fun k => by simp only [kimberlitelaw03_CurveFenchel.j2]; rw [if_neg (by simp), if_neg h1, if_neg h2, neg_w hq]) (Ev.bind (greatest_ev va hq) (Ev.bind (greatest_ev vb hq2) (Ev.congr (f := fun _ => some true) (fun k => ?_) (Ev.now _))))
      rw [sw, if_pos hle]
      rfl
theorem fenchel_j1 {a b : S24} {x : Int} (va : Vc a) (vb : Vc b) (h : Low a b x) (q : Int) : Ev (fun k => kimberlitelaw03_CurveFenchel.j1 k q (two a b x) x (meetP a b x) (valC a x) (valC b x) false a.f0 a.f1 a.f2 b.f0 b.f1 b.f2) true := by
  have fin := fenchel_j2 va vb h q
  obtain ⟨t1, t2, t3, t4⟩ := h.tight va vb
  by_cases hp : meetP a b x > -1048576
  · have hl := h.least va vb hp
    have w1 : wrap64 (meetP a b x - 1) = meetP a b x - 1 := by clear hl; unfold wrap64; omega
    have w2 : wrap64 (1 - meetP a b x) = 1 - meetP a b x := by clear hl w1; unfold wrap64; omega
    have r0 : -1073741824 ≤ meetP a b x ∧ meetP a b x ≤ 1073741824 := by clear hl w1 w2; omega
    have r1 : -1073741824 ≤ meetP a b x - 1 ∧ meetP a b x - 1 ≤ 1073741824 := by clear hl w1 w2; omega
    have r2 : -1073741824 ≤ 1 - meetP a b x ∧ 1 - meetP a b x ≤ 1073741824 := by clear hl w1 w2; omega
    have c0 := term_w va h.ina r0
    have c1 := term_w va h.ina r1
    have c2 := term_w vb h.inb r2
    generalize meetP a b x = p at *
    refine Ev.step (fun k => by simp only [kimberlitelaw03_CurveFenchel.j1]; rw [if_neg (by simp), if_pos hp, w1, w2, c0, c1, c2]) ?_
    refine Ev.bind (greatest_ev va r1) (Ev.bind (greatest_ev vb r2) ?_)
    by_cases d1 : wrap64 (gC a (p - 1) + gC b (1 - p)) = wrap64 (-two a b x)
    · refine Ev.congr (fun k => if_pos d1) (Ev.bind (greatest_ev va r0) (Ev.congr (fun k => if_pos t3) (Ev.bind (greatest_ev va r1) ?_)))
      by_cases d2 : (p - 1) * x - valC a x = gC a (p - 1)
      · refine Ev.congr (fun k => if_pos d2) (Ev.bind (greatest_ev vb r2) ?_)
        have d3 : ((1 - p) * x - valC b x == gC b (1 - p)) = false := by
          rw [beq_eq_false_iff_ne]
          exact fun e => hl ⟨d2, e⟩
        rw [d3]
        exact fin
      · exact Ev.congr (fun k => if_neg d2) fin
    · exact Ev.congr (fun k => if_neg d1) fin
  · refine Ev.step (fun k => ?_) fin
    simp only [kimberlitelaw03_CurveFenchel.j1]
    rw [if_neg (by simp), if_neg hp]
theorem fenchel_j0 {a b : S24} {x : Int} (va : Vc a) (vb : Vc b) (h : Low a b x) (q y : Int) : Ev (fun k => kimberlitelaw03_CurveFenchel.j0 k q y (two a b x) x (meetP a b x) (valC a x) (valC b x) false a.f0 a.f1 a.f2 b.f0 b.f1 b.f2) true := by
  have fin := fenchel_j1 va vb h q
  refine Ev.step (fun k => ?_) fin
  simp only [kimberlitelaw03_CurveFenchel.j0]
  rw [if_neg (by simp), at_law a, at_law b, Option.bind_some, Option.bind_some]
  by_cases ha : inC a y
  · rw [atR_in va ha]
    simp only
    rw [if_pos trivial]
    by_cases hb : inC b y
    · rw [atR_in vb hb]
      simp only
      rw [if_pos trivial]
      have b1 := val_bound va y
      have b2 := val_bound vb y
      have e : wrap64 (valC a y + valC b y) = two a b y := by unfold wrap64 two; omega
      have h1 := h.low y ha hb
      have h2 := h.first y ha hb
      rw [e, if_neg (by clear e h2; omega)]
      by_cases hs : two a b y = two a b x
      · rw [if_pos hs, decide_eq_false (by intro hlt; have := h2 hlt; clear e; omega)]
      · rw [if_neg hs]
    · rw [atR_out hb, if_neg (by simp)]
  · rw [atR_out ha, if_neg (by simp)]
theorem CurveFenchel_pure (a b : S24) (q y : Int) : ∃ k, kimberlitelaw03_CurveFenchel.f k a.f0 a.f1 a.f2 b.f0 b.f1 b.f2 q y = some true := by
  refine Ev.rounds ?_
  unfold kimberlitelaw03_CurveFenchel.f
  rcases meet_ev a b with ⟨n, hn, he⟩ | ⟨va, vb, x, hx, he⟩
  · refine Ev.bind he (Ev.congr (f := fun _ => some true) (fun k => ?_) (Ev.now _))
    simp only
    rw [if_neg hn, if_pos trivial, if_pos trivial, if_pos trivial]
    rfl
  · obtain ⟨t1, t2, t3, t4⟩ := hx.tight va vb
    have fin := fenchel_j0 va vb hx q y
    have b1 := val_bound va x
    have b2 := val_bound vb x
    have e1 : wrap64 (valC a x + valC b x) = two a b x := by unfold wrap64 two; omega
    have r1 : -1073741824 ≤ meetP a b x ∧ meetP a b x ≤ 1073741824 := by clear e1; omega
    have r2 : -1073741824 ≤ -meetP a b x ∧ -meetP a b x ≤ 1073741824 := by clear e1; omega
    have ew : wrap64 (-two a b x) = -two a b x := by clear e1; unfold two; unfold wrap64; omega
    have n1 := neg_w r1
    have es : wrap64 (gC a (meetP a b x) + gC b (-meetP a b x)) = -two a b x := by
      rw [Int.neg_mul] at t4
      have : gC a (meetP a b x) + gC b (-meetP a b x) = -two a b x := by clear e1 ew n1; unfold two; omega
      rw [this, ew]
    refine Ev.bind he (Ev.congr (f := fun k => (kimberlitelaw03_greatest.f k a.f0 a.f1 a.f2 (meetP a b x)).bind fun t612 => (kimberlitelaw03_greatest.f k b.f0 b.f1 b.f2 (-meetP a b x)).bind fun t613 => kimberlitelaw03_CurveFenchel.j0 k q y (two a b x) x (meetP a b x) (valC a x) (valC b x) (wrap64 (t612 + t613) != -two a b x) a.f0 a.f1 a.f2 b.f0 b.f1 b.f2) (fun k => ?_) ?_)
    · simp only
      rw [if_pos trivial, at_law a, at_law b, Option.bind_some, Option.bind_some, atR_in va hx.ina, atR_in vb hx.inb]
      simp only
      rw [if_pos trivial, if_pos trivial, e1, if_pos rfl, if_neg (by clear e1 ew n1 es; omega), if_neg (by clear e1 ew n1 es; omega), n1, ew]
    · refine Ev.bind (greatest_ev va r1) (Ev.bind (greatest_ev vb r2) ?_)
      rw [es, show (-two a b x != -two a b x) = false by simp]
      exact fin
theorem CurveFenchel_walk {W : World} (x0 : S24) (a0 : Option Addr) (cap0 : Nat) (c0 : x0.f2.length ≤ cap0) (hr0 : Kd.C (Kd.int .i64) W a0 x0.f2.length x0.f2) (w0 : okC x0) (x1 : S24) (a1 : Option Addr) (cap1 : Nat) (c1 : x1.f2.length ≤ cap1) (hr1 : Kd.C (Kd.int .i64) W a1 x1.f2.length x1.f2) (w1 : okC x1) (a2 : Int) (b2 : (Lit.int .i64 a2).wf = true) (a3 : Int) (b3 : (Lit.int .i64 a3).wf = true) :
    Calls Try.prog 7 #[.agg #[.int .i64 x0.f0, .int .i64 x0.f1, .slice a0 x0.f2.length cap0], .agg #[.int .i64 x1.f0, .int .i64 x1.f1, .slice a1 x1.f2.length cap1], .int .i64 a2, .int .i64 a3] W fun e w' => e = .returned (.bool true) ∧ Below W.heap.size W w' := by
  obtain ⟨k, h⟩ := CurveFenchel_pure x0 x1 a2 a3
  exact kimberlitelaw03_CurveFenchel.calls k _ _ _ _ x0.f2 _ _ _ _ x1.f2 a2 a3 true W hr0 c0 hr1 c1 h
end Go.Proofs.Ytingjpcgehgiiaa.Pr
end
section
namespace Go.Proofs.Ytingjpcgehgiiaa.curveFenchel
open Go.ChangeShapes Go.WideShapes Go.ChangeAt Go.RowKit Go.Proofs.Ytingjpcgehgiiaa.Pr
set_option linter.unusedVariables false
theorem own : ownKnob Try.prog.godebug = none := by kernel_rfl
theorem laidOut : laidOutB Try.prog = true := by kernel_rfl
set_option maxRecDepth 100000 in
theorem lifted (os : Os) (started : os.Started) (H : Type) (enc : TypeId × Value → H) :
    ReturnsInHanded {} Try.checked os 7 .any (Rows.curveFenchelSpec.pre6 enc Try.prog Try.f7 Rows.curveFenchelRow.domain false) (Rows.curveFenchelSpec.post enc Try.prog Try.f7 false true false false) := by
  refine returnsInHanded_of_change (C := Try.checked) own started (by kernel_rfl) Try.func7
    (ChangeSpec.witness6 (enc := enc) (C := Try.checked) false ⟨#[], #[.agg #[.int .i64 0, .int .i64 0, .slice none 0 0], .agg #[.int .i64 0, .int .i64 0, .slice none 0 0], .int .i64 0, .int .i64 0], []⟩ 8 (by kernel_rfl) (by kernel_rfl) (by kernel_rfl) (by kernel_rfl)) ?_
  intro W base args ds gs before hval0 hW hcnd _
  have hval : ∀ (j : Nat) t v, Try.f7.params[j]? = some t → args[j]? = some v → Value.okWide Try.prog W .any base t v := hval0
  have hW' := hW
  obtain ⟨p, q, hA0, hV, rfl, hfz, hnd⟩ := hW
  have hA : DataW.TrodAll enc Try.prog W 0 (fun _ => true) true Try.f7.params.toList args.toList ds p := hA0
  rw [Try.params7] at hA hval
  obtain ⟨v0, vs0, d0, ds0, p0, q0, hargs, rfl, rfl, h0, r0⟩ := trodAll_cons hA
  obtain ⟨v1, vs1, d1, ds1, p1, q1, rfl, rfl, rfl, h1, r1⟩ := trodAll_cons r0
  obtain ⟨v2, vs2, d2, ds2, p2, q2, rfl, rfl, rfl, h2, r2⟩ := trodAll_cons r1
  obtain ⟨v3, vs3, d3, ds3, p3, q3, rfl, rfl, rfl, h3, r3⟩ := trodAll_cons r2
  obtain ⟨rfl, rfl, rfl⟩ := trodAll_nil r3
  obtain rfl : args = #[v0, v1, v2, v3] := by cases args; simp_all
  obtain ⟨rfl, rfl⟩ := trodVars_none hV
  have k0 := h0
  have lt0 : ∀ x ∈ p0, x.block < W.heap.size := by obtain ⟨m, hm⟩ := k0; exact DataW.trod_lt m _ _ _ hm
  obtain ⟨x0, a0, cap0, rfl, c0, hr0, w0⟩ := open_curve (hval 0 24 v0 rfl rfl) h0
  have k1 := h1
  have lt1 : ∀ x ∈ p1, x.block < W.heap.size := by obtain ⟨m, hm⟩ := k1; exact DataW.trod_lt m _ _ _ hm
  obtain ⟨x1, a1, cap1, rfl, c1, hr1, w1⟩ := open_curve (hval 1 24 v1 rfl rfl) h1
  obtain ⟨a2, rfl, rfl, rfl, w2⟩ := open_int Try.underlying3 (hval 2 3 v2 rfl rfl) h2
  obtain ⟨a3, rfl, rfl, rfl, w3⟩ := open_int Try.underlying3 (hval 3 3 v3 rfl rfl) h3
  clear hA0 hval0
  try simp only [List.append_nil] at hW'
  refine (CurveFenchel_walk x0 a0 cap0 c0 hr0 w0 x1 a1 cap1 c1 hr1 w1 a2 w2 a3 w3).mono fun e W' ⟨he, bel⟩ => ?_
  subst he
  exact ⟨_, rfl, _, _, _, [], _, [], hW', trodAll_mk1 (shut_bool Try.underlying4 _), (trodAll_cons_mk (Below.trod laidOut (by kernel_rfl) (of_decide_eq_true (by kernel_rfl)) k0 bel lt0) (trodAll_cons_mk (Below.trod laidOut (by kernel_rfl) (of_decide_eq_true (by kernel_rfl)) k1 bel lt1) (trodAll_cons_mk (shut_int Try.underlying3 w2) (trodAll_cons_mk (shut_int Try.underlying3 w3) trodAll_mk0)))), rfl, bel.frame _, fun h => by cases h⟩
theorem over : Rows.curveFenchelRow.holds Try.pinned (OpenSpec.ofChange Rows.curveFenchelSpec) :=
  OpenClaim.holds_of_wide 7 Try.f7 rfl rfl rfl rfl rfl rfl rfl ⟨rfl, rfl, rfl, rfl, rfl⟩ rfl rfl rfl rfl rfl (by kernel_rfl) Try.func7 (by kernel_rfl)
    (of_decide_eq_true (by kernel_rfl)) (by unfold Func.isWrapper; first | (rw [if_pos (by decide +kernel)]; kernel_rfl) | (rw [if_neg (by decide +kernel)]; exact ⟨rfl, rfl⟩))
    (fun os started H enc _ => lifted os started H enc)
theorem proved : Rows.CurveFenchelSaid := over
end Go.Proofs.Ytingjpcgehgiiaa.curveFenchel
namespace Go.Proofs.Ytingjpcgehgiiaa
/-- The row, under a short name, for the claim. -/
theorem curveFenchel_holds : Rows.CurveFenchelSaid := curveFenchel.proved
end Go.Proofs.Ytingjpcgehgiiaa
end
