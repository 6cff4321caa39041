/- What the proof of the law needs, trimmed and merged by wip/pack.py out of the texts YtingjpcgehgiiaaPrx32. No condition. -/
import Derived.Test.YtingjpcgehgiiaaKCurveJoins0
import Derived.Test.YtingjpcgehgiiaaKCurveJoins1
import Derived.Test.YtingjpcgehgiiaaKCurveJoins2
section
namespace Go.Proofs.Ytingjpcgehgiiaa.Pr
open Go.RowKit Go.Proofs.YtingjpcgehgiiaaW.PrintWords Go.Proofs.YtingjpcgehgiiaaW.PrintLast Go.Proofs.YtingjpcgehgiiaaW.PrintMore
attribute [local go_sem] max2_int min2_int max_two min_two max_three min_three max_four min_four   -- for this text's walks alone
set_option linter.unusedVariables false
set_option linter.unusedSimpArgs false
mutual
def kimberlitelaw03_CurveJoins.j0 : Nat → Int → Int → Int → Bool → Int → Int → List Int → Int → Int → List Int → Int → Int → List Int → Int → Int → List Int → Option (Bool)
 | 0, _, _, _, _, _, _, _, _, _, _, _, _, _, _, _, _ => none
 | k + 1, x3, x4, x12, x51, x629000, x629001, x629002, x630000, x630001, x630002, x631000, x631001, x631002, x638000, x638001, x638002 => if x51 = true then (some false) else (if x12 = 0 then ((curve_Join.f x638000 x638001 x638002 x631000 x631001 x631002).bind fun bt650 => ((curve_Join.f x630000 x630001 x630002 x631000 x631001 x631002).bind fun bt657 => ((curve_Join.f x629000 x629001 x629002 bt657.1 bt657.2.1 bt657.2.2.1).bind fun bt664 => (if bt650.2.2.2 = 0 then (if bt657.2.2.2 = 0 then (if bt664.2.2.2 = 0 then ((kimberlitelaw03_alike.f k bt650.1 bt650.2.1 bt650.2.2.1 bt664.1 bt664.2.1 bt664.2.2.1).bind fun t671 => (kimberlitelaw03_CurveJoins.j1 k x3 x4 (!t671) x629000 x629001 x629002 x630000 x630001 x630002 x638000 x638001 x638002)) else (kimberlitelaw03_CurveJoins.j1 k x3 x4 false x629000 x629001 x629002 x630000 x630001 x630002 x638000 x638001 x638002)) else (kimberlitelaw03_CurveJoins.j1 k x3 x4 false x629000 x629001 x629002 x630000 x630001 x630002 x638000 x638001 x638002)) else (kimberlitelaw03_CurveJoins.j1 k x3 x4 false x629000 x629001 x629002 x630000 x630001 x630002 x638000 x638001 x638002))))) else ((curve_Valid.f x629000 x629001 x629002).bind fun t646 => (if t646 = true then ((curve_Valid.f x630000 x630001 x630002).bind fun t647 => (if ((x12 == 2) == (!t647)) = true then ((kimberlitelaw03_alive.f).bind fun t648 => (some t648)) else (some false))) else (if ((x12 == 2) == true) = true then ((kimberlitelaw03_alive.f).bind fun t649 => (some t649)) else (some false)))))
def kimberlitelaw03_CurveJoins.j1 : Nat → Int → Int → Bool → Int → Int → List Int → Int → Int → List Int → Int → Int → List Int → Option (Bool)
 | 0, _, _, _, _, _, _, _, _, _, _, _, _ => none
 | k + 1, x3, x4, x101, x629000, x629001, x629002, x630000, x630001, x630002, x638000, x638001, x638002 => if x101 = true then (some false) else ((kimberlitelaw03_at.f x629000 x629001 x629002 x3).bind fun bt672 => ((kimberlitelaw03_at.f x630000 x630001 x630002 x4).bind fun bt674 => (if bt672.2 = true then (kimberlitelaw03_CurveJoins.j2 k x3 x4 bt672.1 bt674.1 (!bt674.2) x629000 x629001 x629002 x630000 x630001 x630002 x638000 x638001 x638002) else (kimberlitelaw03_CurveJoins.j2 k x3 x4 bt672.1 bt674.1 true x629000 x629001 x629002 x630000 x630001 x630002 x638000 x638001 x638002))))
def kimberlitelaw03_CurveJoins.j2 : Nat → Int → Int → Int → Int → Bool → Int → Int → List Int → Int → Int → List Int → Int → Int → List Int → Option (Bool)
 | 0, _, _, _, _, _, _, _, _, _, _, _, _, _, _ => none
 | k + 1, x3, x4, x19, x21, x119, x629000, x629001, x629002, x630000, x630001, x630002, x638000, x638001, x638002 => if x119 = true then ((kimberlitelaw03_alive.f).bind fun t676 => (some t676)) else ((kimberlitelaw03_at.f x638000 x638001 x638002 (wrap64 (x3 + x4))).bind fun bt677 => (kimberlitelaw03_CurveJoins.l0 k x3 x4 x19 x21 bt677.1 bt677.2 false 0 x629000 x629001 x629002 x630000 x630001 x630002 x638000 x638001 x638002))
def kimberlitelaw03_CurveJoins.l0 : Nat → Int → Int → Int → Int → Int → Bool → Bool → Int → Int → Int → List Int → Int → Int → List Int → Int → Int → List Int → Option (Bool)
 | 0, _, _, _, _, _, _, _, _, _, _, _, _, _, _, _, _, _ => none
 | k + 1, x3, x4, x19, x21, x23, x24, x25, x26, x629000, x629001, x629002, x630000, x630001, x630002, x638000, x638001, x638002 => if x26 ≤ (x629002.length : Int) then ((kimberlitelaw03_at.f x629000 x629001 x629002 (wrap64 (x629000 + x26))).bind fun bt679 => ((kimberlitelaw03_at.f x630000 x630001 x630002 (wrap64 ((wrap64 ((wrap64 (x3 + x4)) - x629000)) - x26))).bind fun bt681 => (if bt679.2 = true then (if bt681.2 = true then (kimberlitelaw03_CurveJoins.j4 k x3 x4 x19 x21 x23 x24 x25 x26 bt679.1 bt679.2 bt681.1 bt681.2 (decide ((wrap64 (bt679.1 + bt681.1)) < x23)) x629000 x629001 x629002 x630000 x630001 x630002 x638000 x638001 x638002) else (kimberlitelaw03_CurveJoins.j4 k x3 x4 x19 x21 x23 x24 x25 x26 bt679.1 bt679.2 bt681.1 bt681.2 false x629000 x629001 x629002 x630000 x630001 x630002 x638000 x638001 x638002)) else (kimberlitelaw03_CurveJoins.j4 k x3 x4 x19 x21 x23 x24 x25 x26 bt679.1 bt679.2 bt681.1 bt681.2 false x629000 x629001 x629002 x630000 x630001 x630002 x638000 x638001 x638002)))) else ((curve_Valid.f x638000 x638001 x638002).bind fun t683 => (if t683 = true then (if x24 = true then (if x23 ≤ (wrap64 (x19 + x21)) then (if x25 = true then ((kimberlitelaw03_alive.f).bind fun t684 => (some t684)) else (some false)) else (some false)) else (some false)) else (some false)))
def kimberlitelaw03_CurveJoins.j4 : Nat → Int → Int → Int → Int → Int → Bool → Bool → Int → Int → Bool → Int → Bool → Bool → Int → Int → List Int → Int → Int → List Int → Int → Int → List Int → Option (Bool)
 | 0, _, _, _, _, _, _, _, _, _, _, _, _, _, _, _, _, _, _, _, _, _, _ => none
 | k + 1, x3, x4, x19, x21, x23, x24, x25, x26, x27, x28, x29, x30, x168, x629000, x629001, x629002, x630000, x630001, x630002, x638000, x638001, x638002 => if x168 = true then (some false) else (if x25 = true then (kimberlitelaw03_CurveJoins.l0 k x3 x4 x19 x21 x23 x24 true (wrap64 (x26 + 1)) x629000 x629001 x629002 x630000 x630001 x630002 x638000 x638001 x638002) else (if x28 = true then (if x30 = true then (kimberlitelaw03_CurveJoins.l0 k x3 x4 x19 x21 x23 x24 ((wrap64 (x27 + x29)) == x23) (wrap64 (x26 + 1)) x629000 x629001 x629002 x630000 x630001 x630002 x638000 x638001 x638002) else (kimberlitelaw03_CurveJoins.l0 k x3 x4 x19 x21 x23 x24 false (wrap64 (x26 + 1)) x629000 x629001 x629002 x630000 x630001 x630002 x638000 x638001 x638002)) else (kimberlitelaw03_CurveJoins.l0 k x3 x4 x19 x21 x23 x24 false (wrap64 (x26 + 1)) x629000 x629001 x629002 x630000 x630001 x630002 x638000 x638001 x638002)))
end
def kimberlitelaw03_CurveJoins.f (k : Nat) (a0_0 : Int) (a0_1 : Int) (l0_2 : List Int) (a1_0 : Int) (a1_1 : Int) (l1_2 : List Int) (a2_0 : Int) (a2_1 : Int) (l2_2 : List Int) (a3 : Int) (a4 : Int) : Option (Bool) := (curve_Join.f a0_0 a0_1 l0_2 a1_0 a1_1 l1_2).bind fun bt631 => ((curve_Join.f a1_0 a1_1 l1_2 a0_0 a0_1 l0_2).bind fun bt638 => ((kimberlitelaw03_alike.f k bt631.1 bt631.2.1 bt631.2.2.1 bt638.1 bt638.2.1 bt638.2.2.1).bind fun t645 => (if t645 = true then (kimberlitelaw03_CurveJoins.j0 k a3 a4 bt631.2.2.2 (bt631.2.2.2 != bt638.2.2.2) a0_0 a0_1 l0_2 a1_0 a1_1 l1_2 a2_0 a2_1 l2_2 bt631.1 bt631.2.1 bt631.2.2.1) else (kimberlitelaw03_CurveJoins.j0 k a3 a4 bt631.2.2.2 true a0_0 a0_1 l0_2 a1_0 a1_1 l1_2 a2_0 a2_1 l2_2 bt631.1 bt631.2.1 bt631.2.2.1))))
theorem kimberlitelaw03_CurveJoins.mono_l : ∀ k, (∀ y0 y1 y2 y3 y4 y5 y6 y7 y8 y9 y10 y11 y12 y13 y14 y15, LeO (kimberlitelaw03_CurveJoins.j0 k y0 y1 y2 y3 y4 y5 y6 y7 y8 y9 y10 y11 y12 y13 y14 y15) (kimberlitelaw03_CurveJoins.j0 (k + 1) y0 y1 y2 y3 y4 y5 y6 y7 y8 y9 y10 y11 y12 y13 y14 y15)) ∧ (∀ y0 y1 y2 y3 y4 y5 y6 y7 y8 y9 y10 y11, LeO (kimberlitelaw03_CurveJoins.j1 k y0 y1 y2 y3 y4 y5 y6 y7 y8 y9 y10 y11) (kimberlitelaw03_CurveJoins.j1 (k + 1) y0 y1 y2 y3 y4 y5 y6 y7 y8 y9 y10 y11)) ∧ (∀ y0 y1 y2 y3 y4 y5 y6 y7 y8 y9 y10 y11 y12 y13, LeO (kimberlitelaw03_CurveJoins.j2 k y0 y1 y2 y3 y4 y5 y6 y7 y8 y9 y10 y11 y12 y13) (kimberlitelaw03_CurveJoins.j2 (k + 1) y0 y1 y2 y3 y4 y5 y6 y7 y8 y9 y10 y11 y12 y13)) ∧ (∀ y0 y1 y2 y3 y4 y5 y6 y7 y8 y9 y10 y11 y12 y13 y14 y15 y16, LeO (kimberlitelaw03_CurveJoins.l0 k y0 y1 y2 y3 y4 y5 y6 y7 y8 y9 y10 y11 y12 y13 y14 y15 y16) (kimberlitelaw03_CurveJoins.l0 (k + 1) y0 y1 y2 y3 y4 y5 y6 y7 y8 y9 y10 y11 y12 y13 y14 y15 y16)) ∧ (∀ y0 y1 y2 y3 y4 y5 y6 y7 y8 y9 y10 y11 y12 y13 y14 y15 y16 y17 y18 y19 y20 y21, LeO (kimberlitelaw03_CurveJoins.j4 k y0 y1 y2 y3 y4 y5 y6 y7 y8 y9 y10 y11 y12 y13 y14 y15 y16 y17 y18 y19 y20 y21) (kimberlitelaw03_CurveJoins.j4 (k + 1) y0 y1 y2 y3 y4 y5 y6 y7 y8 y9 y10 y11 y12 y13 y14 y15 y16 y17 y18 y19 y20 y21))
 | 0 => ⟨fun _ _ _ _ _ _ _ _ _ _ _ _ _ _ _ _ r h => by simp [kimberlitelaw03_CurveJoins.j0] at h, fun _ _ _ _ _ _ _ _ _ _ _ _ r h => by simp [kimberlitelaw03_CurveJoins.j1] at h, fun _ _ _ _ _ _ _ _ _ _ _ _ _ _ r h => by simp [kimberlitelaw03_CurveJoins.j2] at h, fun _ _ _ _ _ _ _ _ _ _ _ _ _ _ _ _ _ r h => by simp [kimberlitelaw03_CurveJoins.l0] at h, fun _ _ _ _ _ _ _ _ _ _ _ _ _ _ _ _ _ _ _ _ _ _ r h => by simp [kimberlitelaw03_CurveJoins.j4] at h⟩
 | k + 1 => by
  obtain ⟨ih0, ih1, ih2, ih3, ih4⟩ := kimberlitelaw03_CurveJoins.mono_l k
  refine ⟨?_, ?_, ?_, ?_, ?_⟩
  · intro y0 y1 y2 y3 y4 y5 y6 y7 y8 y9 y10 y11 y12 y13 y14 y15
    unfold kimberlitelaw03_CurveJoins.j0
    repeat' first
    | (with_reducible exact ih0 _ _ _ _ _ _ _ _ _ _ _ _ _ _ _ _)
    | (with_reducible exact ih1 _ _ _ _ _ _ _ _ _ _ _ _)
    | (with_reducible exact ih2 _ _ _ _ _ _ _ _ _ _ _ _ _ _)
    | (with_reducible exact ih3 _ _ _ _ _ _ _ _ _ _ _ _ _ _ _ _ _)
    | (with_reducible exact ih4 _ _ _ _ _ _ _ _ _ _ _ _ _ _ _ _ _ _ _ _ _ _)
    | (with_reducible exact kimberlitelaw03_alike.mono _ _ _ _ _ _ _)
    | (with_reducible exact LeO.refl _)
    | (with_reducible exact LeO.none _)
    | (with_reducible refine LeO.ite ?_ ?_)
    | (with_reducible refine LeO.bind ?_ (fun _ => ?_))
    | exact ih0 _ _ _ _ _ _ _ _ _ _ _ _ _ _ _ _
    | exact ih1 _ _ _ _ _ _ _ _ _ _ _ _
    | exact ih2 _ _ _ _ _ _ _ _ _ _ _ _ _ _
    | exact ih3 _ _ _ _ _ _ _ _ _ _ _ _ _ _ _ _ _
    | exact ih4 _ _ _ _ _ _ _ _ _ _ _ _ _ _ _ _ _ _ _ _ _ _
    | exact kimberlitelaw03_alike.mono _ _ _ _ _ _ _
    | exact LeO.none _
    | refine LeO.ite ?_ ?_
    | refine LeO.bind ?_ (fun _ => ?_)
  · intro y0 y1 y2 y3 y4 y5 y6 y7 y8 y9 y10 y11
    unfold kimberlitelaw03_CurveJoins.j1
    repeat' first
    | (with_reducible exact ih0 _ _ _ _ _ _ _ _ _ _ _ _ _ _ _ _)
    | (with_reducible exact ih1 _ _ _ _ _ _ _ _ _ _ _ _)
    | (with_reducible exact ih2 _ _ _ _ _ _ _ _ _ _ _ _ _ _)
    | (with_reducible exact ih3 _ _ _ _ _ _ _ _ _ _ _ _ _ _ _ _ _)
    | (with_reducible exact ih4 _ _ _ _ _ _ _ _ _ _ _ _ _ _ _ _ _ _ _ _ _ _)
    | (with_reducible exact kimberlitelaw03_alike.mono _ _ _ _ _ _ _)
    | (with_reducible exact LeO.refl _)
    | (with_reducible exact LeO.none _)
    | (with_reducible refine LeO.ite ?_ ?_)
    | (with_reducible refine LeO.bind ?_ (fun _ => ?_))
    | exact ih0 _ _ _ _ _ _ _ _ _ _ _ _ _ _ _ _
    | exact ih1 _ _ _ _ _ _ _ _ _ _ _ _
    | exact ih2 _ _ _ _ _ _ _ _ _ _ _ _ _ _
    | exact ih3 _ _ _ _ _ _ _ _ _ _ _ _ _ _ _ _ _
    | exact ih4 _ _ _ _ _ _ _ _ _ _ _ _ _ _ _ _ _ _ _ _ _ _
    | exact kimberlitelaw03_alike.mono _ _ _ _ _ _ _
    | exact LeO.none _
    | refine LeO.ite ?_ ?_
    | refine LeO.bind ?_ (fun _ => ?_)
  · intro y0 y1 y2 y3 y4 y5 y6 y7 y8 y9 y10 y11 y12 y13
    unfold kimberlitelaw03_CurveJoins.j2
    repeat' first
    | (with_reducible exact ih0 _ _ _ _ _ _ _ _ _ _ _ _ _ _ _ _)
    | (with_reducible exact ih1 _ _ _ _ _ _ _ _ _ _ _ _)
    | (with_reducible exact ih2 _ _ _ _ _ _ _ _ _ _ _ _ _ _)
    | (with_reducible exact ih3 _ _ _ _ _ _ _ _ _ _ _ _ _ _ _ _ _)
    | (with_reducible exact ih4 _ _ _ _ _ _ _ _ _ _ _ _ _ _ _ _ _ _ _ _ _ _)
    | (with_reducible exact kimberlitelaw03_alike.mono _ _ _ _ _ _ _)
    | (with_reducible exact LeO.refl _)
    | (with_reducible exact LeO.none _)
    | (with_reducible refine LeO.ite ?_ ?_)
    | (with_reducible refine LeO.bind ?_ (fun _ => ?_))
    | exact ih0 _ _ _ _ _ _ _ _ _ _ _ _ _ _ _ _
    | exact ih1 _ _ _ _ _ _ _ _ _ _ _ _
    | exact ih2 _ _ _ _ _ _ _ _ _ _ _ _ _ _
    | exact ih3 _ _ _ _ _ _ _ _ _ _ _ _ _ _ _ _ _
    | exact ih4 _ _ _ _ _ _ _ _ _ _ _ _ _ _ _ _ _ _ _ _ _ _
    | exact kimberlitelaw03_alike.mono _ _ _ _ _ _ _
    | exact LeO.none _
    | refine LeO.ite ?_ ?_
    | refine LeO.bind ?_ (fun _ => ?_)
  · intro y0 y1 y2 y3 y4 y5 y6 y7 y8 y9 y10 y11 y12 y13 y14 y15 y16
    unfold kimberlitelaw03_CurveJoins.l0
    repeat' first
    | (with_reducible exact ih0 _ _ _ _ _ _ _ _ _ _ _ _ _ _ _ _)
    | (with_reducible exact ih1 _ _ _ _ _ _ _ _ _ _ _ _)
    | (with_reducible exact ih2 _ _ _ _ _ _ _ _ _ _ _ _ _ _)
    | (with_reducible exact ih3 _ _ _ _ _ _ _ _ _ _ _ _ _ _ _ _ _)
    | (with_reducible exact ih4 _ _ _ _ _ _ _ _ _ _ _ _ _ _ _ _ _ _ _ _ _ _)
    | (with_reducible exact kimberlitelaw03_alike.mono _ _ _ _ _ _ _)
    | (with_reducible exact LeO.refl _)
    | (with_reducible exact LeO.none _)
    | (with_reducible refine LeO.ite ?_ ?_)
    | (with_reducible refine LeO.bind ?_ (fun _ => ?_))
    | exact ih0 _ _ _ _ _ _ _ _ _ _ _ _ _ _ _ _
    | exact ih1 _ _ _ _ _ _ _ _ _ _ _ _
    | exact ih2 _ _ _ _ _ _ _ _ _ _ _ _ _ _
    | exact ih3 _ _ _ _ _ _ _ _ _ _ _ _ _ _ _ _ _
    | exact ih4 _ _ _ _ _ _ _ _ _ _ _ _ _ _ _ _ _ _ _ _ _ _
    | exact kimberlitelaw03_alike.mono _ _ _ _ _ _ _
    | exact LeO.none _
    | refine LeO.ite ?_ ?_
    | refine LeO.bind ?_ (fun _ => ?_)
  · intro y0 y1 y2 y3 y4 y5 y6 y7 y8 y9 y10 y11 y12 y13 y14 y15 y16 y17 y18 y19 y20 y21
    unfold kimberlitelaw03_CurveJoins.j4
    repeat' first
    | (with_reducible exact ih0 _ _ _ _ _ _ _ _ _ _ _ _ _ _ _ _)
    | (with_reducible exact ih1 _ _ _ _ _ _ _ _ _ _ _ _)
    | (with_reducible exact ih2 _ _ _ _ _ _ _ _ _ _ _ _ _ _)
    | (with_reducible exact ih3 _ _ _ _ _ _ _ _ _ _ _ _ _ _ _ _ _)
    | (with_reducible exact ih4 _ _ _ _ _ _ _ _ _ _ _ _ _ _ _ _ _ _ _ _ _ _)
    | (with_reducible exact kimberlitelaw03_alike.mono _ _ _ _ _ _ _)
    | (with_reducible exact LeO.refl _)
    | (with_reducible exact LeO.none _)
    | (with_reducible refine LeO.ite ?_ ?_)
    | (with_reducible refine LeO.bind ?_ (fun _ => ?_))
    | exact ih0 _ _ _ _ _ _ _ _ _ _ _ _ _ _ _ _
    | exact ih1 _ _ _ _ _ _ _ _ _ _ _ _
    | exact ih2 _ _ _ _ _ _ _ _ _ _ _ _ _ _
    | exact ih3 _ _ _ _ _ _ _ _ _ _ _ _ _ _ _ _ _
    | exact ih4 _ _ _ _ _ _ _ _ _ _ _ _ _ _ _ _ _ _ _ _ _ _
    | exact kimberlitelaw03_alike.mono _ _ _ _ _ _ _
    | exact LeO.none _
    | refine LeO.ite ?_ ?_
    | refine LeO.bind ?_ (fun _ => ?_)
theorem kimberlitelaw03_CurveJoins.mono : ∀ a0 a1 a2 a3 a4 a5 a6 a7 a8 a9 a10 k, LeO (kimberlitelaw03_CurveJoins.f k a0 a1 a2 a3 a4 a5 a6 a7 a8 a9 a10) (kimberlitelaw03_CurveJoins.f (k + 1) a0 a1 a2 a3 a4 a5 a6 a7 a8 a9 a10) := by
 intro a0 a1 a2 a3 a4 a5 a6 a7 a8 a9 a10 k
 obtain ⟨ih0, ih1, ih2, ih3, ih4⟩ := kimberlitelaw03_CurveJoins.mono_l k
 unfold kimberlitelaw03_CurveJoins.f
 repeat' first
  | (with_reducible exact ih0 _ _ _ _ _ _ _ _ _ _ _ _ _ _ _ _)
  | (with_reducible exact ih1 _ _ _ _ _ _ _ _ _ _ _ _)
  | (with_reducible exact ih2 _ _ _ _ _ _ _ _ _ _ _ _ _ _)
  | (with_reducible exact ih3 _ _ _ _ _ _ _ _ _ _ _ _ _ _ _ _ _)
  | (with_reducible exact ih4 _ _ _ _ _ _ _ _ _ _ _ _ _ _ _ _ _ _ _ _ _ _)
  | (with_reducible exact kimberlitelaw03_alike.mono _ _ _ _ _ _ _)
  | (with_reducible exact LeO.refl _)
  | (with_reducible exact LeO.none _)
  | (with_reducible refine LeO.ite ?_ ?_)
  | (with_reducible refine LeO.bind ?_ (fun _ => ?_))
  | exact ih0 _ _ _ _ _ _ _ _ _ _ _ _ _ _ _ _
  | exact ih1 _ _ _ _ _ _ _ _ _ _ _ _
  | exact ih2 _ _ _ _ _ _ _ _ _ _ _ _ _ _
  | exact ih3 _ _ _ _ _ _ _ _ _ _ _ _ _ _ _ _ _
  | exact ih4 _ _ _ _ _ _ _ _ _ _ _ _ _ _ _ _ _ _ _ _ _ _
  | exact kimberlitelaw03_alike.mono _ _ _ _ _ _ _
  | exact LeO.none _
  | refine LeO.ite ?_ ?_
  | refine LeO.bind ?_ (fun _ => ?_)
set_option maxHeartbeats 8000000 in
set_option maxRecDepth 100000 in
theorem kimberlitelaw03_CurveJoins.calls (k : Nat) (a0_0 : Int) (a0_1 : Int) (A0_2 : Option Addr) (c0_2 : Nat) (l0_2 : List Int) (a1_0 : Int) (a1_1 : Int) (A1_2 : Option Addr) (c1_2 : Nat) (l1_2 : List Int) (a2_0 : Int) (a2_1 : Int) (A2_2 : Option Addr) (c2_2 : Nat) (l2_2 : List Int) (a3 : Int) (a4 : Int) (r : Bool) (w : World) (hr0_2 : Kd.C (Kd.int .i64) w A0_2 l0_2.length l0_2) (hc0_2 : l0_2.length ≤ c0_2) (hr1_2 : Kd.C (Kd.int .i64) w A1_2 l1_2.length l1_2) (hc1_2 : l1_2.length ≤ c1_2) (hr2_2 : Kd.C (Kd.int .i64) w A2_2 l2_2.length l2_2) (hc2_2 : l2_2.length ≤ c2_2) (h : kimberlitelaw03_CurveJoins.f k a0_0 a0_1 l0_2 a1_0 a1_1 l1_2 a2_0 a2_1 l2_2 a3 a4 = some r) :
 Calls Try.prog 3 #[.agg #[.int .i64 a0_0, .int .i64 a0_1, .slice A0_2 l0_2.length c0_2], .agg #[.int .i64 a1_0, .int .i64 a1_1, .slice A1_2 l1_2.length c1_2], .agg #[.int .i64 a2_0, .int .i64 a2_1, .slice A2_2 l2_2.length c2_2], .int .i64 a3, .int .i64 a4] w fun e w' => e = .returned (.bool r) ∧ Below w.heap.size w w' := by
 have hu24 := Try.underlying24
 have HR0_2 := Aside0.mk hr0_2
 have HC0_2 := Aside0.mk hc0_2
 clear hr0_2 hc0_2
 have HR1_2 := Aside0.mk hr1_2
 have HC1_2 := Aside0.mk hc1_2
 clear hr1_2 hc1_2
 have HR2_2 := Aside0.mk hr2_2
 have HC2_2 := Aside0.mk hc2_2
 clear hr2_2 hc2_2
 have HB := Aside0.mk (Below.refl w.heap.size w)
 have H : ((curve_Join.f a0_0 a0_1 l0_2 a1_0 a1_1 l1_2).bind fun bt631 => ((curve_Join.f a1_0 a1_1 l1_2 a0_0 a0_1 l0_2).bind fun bt638 => ((kimberlitelaw03_alike.f k bt631.1 bt631.2.1 bt631.2.2.1 bt638.1 bt638.2.1 bt638.2.2.1).bind fun t645 => (if t645 = true then (kimberlitelaw03_CurveJoins.j0 k a3 a4 bt631.2.2.2 (bt631.2.2.2 != bt638.2.2.2) a0_0 a0_1 l0_2 a1_0 a1_1 l1_2 a2_0 a2_1 l2_2 bt631.1 bt631.2.1 bt631.2.2.1) else (kimberlitelaw03_CurveJoins.j0 k a3 a4 bt631.2.2.2 true a0_0 a0_1 l0_2 a1_0 a1_1 l1_2 a2_0 a2_1 l2_2 bt631.1 bt631.2.1 bt631.2.2.1))))) = some r := h
 clear h
 replace H := Option.bind_eq_some_iff.mp H
 obtain ⟨⟨t631, t632, t633, t636⟩, A60, H⟩ := H
 replace H : ((curve_Join.f a1_0 a1_1 l1_2 a0_0 a0_1 l0_2).bind fun bt638 => ((kimberlitelaw03_alike.f k t631 t632 t633 bt638.1 bt638.2.1 bt638.2.2.1).bind fun t645 => (if t645 = true then (kimberlitelaw03_CurveJoins.j0 k a3 a4 t636 (t636 != bt638.2.2.2) a0_0 a0_1 l0_2 a1_0 a1_1 l1_2 a2_0 a2_1 l2_2 t631 t632 t633) else (kimberlitelaw03_CurveJoins.j0 k a3 a4 t636 true a0_0 a0_1 l0_2 a1_0 a1_1 l1_2 a2_0 a2_1 l2_2 t631 t632 t633)))) = some r := H
 have A6 := Aside0.mk A60
 clear A60
 replace H := Option.bind_eq_some_iff.mp H
 obtain ⟨⟨t638, t639, t640, t643⟩, A70, H⟩ := H
 replace H : ((kimberlitelaw03_alike.f k t631 t632 t633 t638 t639 t640).bind fun t645 => (if t645 = true then (kimberlitelaw03_CurveJoins.j0 k a3 a4 t636 (t636 != t643) a0_0 a0_1 l0_2 a1_0 a1_1 l1_2 a2_0 a2_1 l2_2 t631 t632 t633) else (kimberlitelaw03_CurveJoins.j0 k a3 a4 t636 true a0_0 a0_1 l0_2 a1_0 a1_1 l1_2 a2_0 a2_1 l2_2 t631 t632 t633))) = some r := H
 have A7 := Aside0.mk A70
 clear A70
 have HC8 := Aside0.mk H
 clear H
 go_enter Try.func3, Try.ntmps3
 go_upto_region 3 with (first | ((with_reducible refine gate_dst (N := 5) rfl ?_); refine box_event ?hg (N := 5) ?hd (cs := #[.int .i64 a0_0, .int .i64 a0_1, .slice A0_2 l0_2.length c0_2]) (t := 24) ?hr ?_; (case hd => rfl); (case hg => rfl); (case hr => first | (go_simp; done) | (go_simp; rfl)); intro gb628 hg w9 hbox hb; have n0_ := Aside0.mk (below_step (nC HB) hb); have n1_ := Aside0.mk (hbox); have n2_ := Aside0.mk ((by rw [hg]; exact (below_size (nC HB)) : w.heap.size ≤ gb628)); have n3_ := Aside0.mk ((by rw [hg]; exact (below_size (nC HB)) : w.heap.size ≤ gb628)); clear HB; have HB := n0_; have BK628 := n1_; have GW628 := n2_; have GE628 := n3_; clear n0_ n1_ n2_ n3_; clear hb hbox hg) | ((with_reducible refine gate_dst (N := 6) rfl ?_); refine box_event ?hg (N := 6) ?hd (cs := #[.int .i64 a1_0, .int .i64 a1_1, .slice A1_2 l1_2.length c1_2]) (t := 24) ?hr ?_; (case hd => rfl); (case hg => rfl); (case hr => first | (go_simp; done) | (go_simp; rfl)); intro gb629 hg w10 hbox hb; have n0_ := Aside0.mk (nB BK628 hb); have n1_ := Aside0.mk (below_step (nC HB) hb); have n2_ := Aside0.mk (hbox); have n3_ := Aside0.mk ((by rw [hg]; exact (below_size (nC HB)) : w.heap.size ≤ gb629)); have n4_ := Aside0.mk ((by rw [hg]; exact (below_size (nC HB)) : w.heap.size ≤ gb629)); have n5_ := Aside0.mk ((by rw [hg]; exact Nat.ne_of_lt (blk_lt (g := gb628) (o := .cells #[.int .i64 a0_0, .int .i64 a0_1, .slice A0_2 l0_2.length c0_2] 24 (0, 0)) (nK BK628)) : gb628 ≠ gb629)); have n6_ := Aside0.mk ((by rw [hg]; exact Nat.ne_of_gt (blk_lt (g := gb628) (o := .cells #[.int .i64 a0_0, .int .i64 a0_1, .slice A0_2 l0_2.length c0_2] 24 (0, 0)) (nK BK628)) : gb629 ≠ gb628)); clear BK628; clear HB; have BK628 := n0_; have HB := n1_; have BK629 := n2_; have GW629 := n3_; have GE629 := n4_; have NB628_629 := n5_; have NB629_628 := n6_; clear n0_ n1_ n2_ n3_ n4_ n5_ n6_; clear hb hbox hg) | ((with_reducible refine gate_dst (N := 7) rfl ?_); refine box_event ?hg (N := 7) ?hd (cs := #[.int .i64 a2_0, .int .i64 a2_1, .slice A2_2 l2_2.length c2_2]) (t := 24) ?hr ?_; (case hd => rfl); (case hg => rfl); (case hr => first | (go_simp; done) | (go_simp; rfl)); intro gb630 hg w11 hbox hb; have n0_ := Aside0.mk (nB BK628 hb); have n1_ := Aside0.mk (nB BK629 hb); have n2_ := Aside0.mk (below_step (nC HB) hb); have n3_ := Aside0.mk (hbox); have n4_ := Aside0.mk ((by rw [hg]; exact (below_size (nC HB)) : w.heap.size ≤ gb630)); have n5_ := Aside0.mk ((by rw [hg]; exact (below_size (nC HB)) : w.heap.size ≤ gb630)); have n6_ := Aside0.mk ((by rw [hg]; exact Nat.ne_of_lt (blk_lt (g := gb628) (o := .cells #[.int .i64 a0_0, .int .i64 a0_1, .slice A0_2 l0_2.length c0_2] 24 (0, 0)) (nK BK628)) : gb628 ≠ gb630)); have n7_ := Aside0.mk ((by rw [hg]; exact Nat.ne_of_gt (blk_lt (g := gb628) (o := .cells #[.int .i64 a0_0, .int .i64 a0_1, .slice A0_2 l0_2.length c0_2] 24 (0, 0)) (nK BK628)) : gb630 ≠ gb628)); have n8_ := Aside0.mk ((by rw [hg]; exact Nat.ne_of_lt (blk_lt (g := gb629) (o := .cells #[.int .i64 a1_0, .int .i64 a1_1, .slice A1_2 l1_2.length c1_2] 24 (0, 0)) (nK BK629)) : gb629 ≠ gb630)); have n9_ := Aside0.mk ((by rw [hg]; exact Nat.ne_of_gt (blk_lt (g := gb629) (o := .cells #[.int .i64 a1_0, .int .i64 a1_1, .slice A1_2 l1_2.length c1_2] 24 (0, 0)) (nK BK629)) : gb630 ≠ gb629)); clear BK628; clear BK629; clear HB; have BK628 := n0_; have BK629 := n1_; have HB := n2_; have BK630 := n3_; have GW630 := n4_; have GE630 := n5_; have NB628_630 := n6_; have NB630_628 := n7_; have NB629_630 := n8_; have NB630_629 := n9_; clear n0_ n1_ n2_ n3_ n4_ n5_ n6_ n7_ n8_ n9_; clear hb hbox hg; have hnb12 := NB628_629.out; have hnc12 := NB629_628.out; have hnb13 := NB628_630.out; have hnc13 := NB630_628.out; have hcz14_0 : w11.cell? ⟨gb628, 0, none⟩ = some (.int .i64 a0_0) := (blk_cell BK628.out 0).trans rfl; have hcz14_1 : w11.cell? ⟨gb628, 1, none⟩ = some (.int .i64 a0_1) := (blk_cell BK628.out 1).trans rfl; have hcz14_2 : w11.cell? ⟨gb628, 2, none⟩ = some (.slice A0_2 l0_2.length c0_2) := (blk_cell BK628.out 2).trans rfl; have hfz14_0 := blk_frozen BK628.out 0; have hfz14_1 := blk_frozen BK628.out 1; have hfz14_2 := blk_frozen BK628.out 2; have hnb15 := NB629_630.out; have hnc15 := NB630_629.out; have hcz16_0 : w11.cell? ⟨gb629, 0, none⟩ = some (.int .i64 a1_0) := (blk_cell BK629.out 0).trans rfl; have hcz16_1 : w11.cell? ⟨gb629, 1, none⟩ = some (.int .i64 a1_1) := (blk_cell BK629.out 1).trans rfl; have hcz16_2 : w11.cell? ⟨gb629, 2, none⟩ = some (.slice A1_2 l1_2.length c1_2) := (blk_cell BK629.out 2).trans rfl; have hfz16_0 := blk_frozen BK629.out 0; have hfz16_1 := blk_frozen BK629.out 1; have hfz16_2 := blk_frozen BK629.out 2) | ((with_reducible refine gate_callee (f := 14) rfl ?_); refine goesL_ (some 34) rfl rfl Try.func14 (by kernel_rfl) rfl #[.agg #[.int .i64 a0_0, .int .i64 a0_1, .slice A0_2 l0_2.length c0_2], .agg #[.int .i64 a1_0, .int .i64 a1_1, .slice A1_2 l1_2.length c1_2]] rfl (by (try simp only [List.map_toArray, List.map_cons, List.map_nil]); first | done | rfl | (simp only [List.length_drop, List.length_take]; rfl)) ?_; (with_reducible refine (curve_Join.calls a0_0 a0_1 _ _ l0_2 a1_0 a1_1 _ _ l1_2 t631 t632 t633 t636 _ ?side1 ?side2 ?side3 ?side4 A6.out).mono ?_); (case side1 => repeat (first | exact (Kd.C_below HR0_2.out HB.out) | (with_reducible refine Kd.C_alloc ?_ _) | (with_reducible refine Kd.C_drewN ?_ _) | (with_reducible refine Kd.C_drew ?_))); (case side2 => exact HC0_2.out); (case side3 => repeat (first | exact (Kd.C_below HR1_2.out HB.out) | (with_reducible refine Kd.C_alloc ?_ _) | (with_reducible refine Kd.C_drewN ?_ _) | (with_reducible refine Kd.C_drew ?_))); (case side4 => exact HC1_2.out); rintro e w17 ⟨v634, rfl, ho0, hb⟩; refine ⟨_, rfl, ?_⟩; have n0_ := Aside0.mk (Kd.R_lower ho0 (below_size (nC HB))); have n1_ := Aside0.mk (nB BK628 hb); have n2_ := Aside0.mk (nB BK629 hb); have n3_ := Aside0.mk (nB BK630 hb); have n4_ := Aside0.mk (below_step (nC HB) hb); clear BK628; clear BK629; clear BK630; clear HB; have HO635 := n0_; have BK628 := n1_; have BK629 := n2_; have BK630 := n3_; have HB := n4_; clear n0_ n1_ n2_ n3_ n4_; (try clear hb); (try clear hb2); (try clear hk); (try clear hi); (try clear ho0)) | ((with_reducible refine gate_dst (N := 11) rfl ?_); refine box_event ?hg (N := 11) ?hd (cs := #[.int .i64 0, .int .i64 0, .slice none 0 0]) (t := 24) ?hr ?_; (case hd => rfl); (case hg => rfl); (case hr => first | (go_simp; done) | (go_simp; rfl)); intro gb637 hg w18 hbox hb; have n0_ := Aside0.mk (Kd.R_below (nR HO635) hb); have n1_ := Aside0.mk (nB BK628 hb); have n2_ := Aside0.mk (nB BK629 hb); have n3_ := Aside0.mk (nB BK630 hb); have n4_ := Aside0.mk (below_step (nC HB) hb); have n5_ := Aside0.mk (hbox); have n6_ := Aside0.mk ((by rw [hg]; exact (below_size (nC HB)) : w.heap.size ≤ gb637)); have n7_ := Aside0.mk ((by rw [hg]; exact (below_size (nC HB)) : w.heap.size ≤ gb637)); have n8_ := Aside0.mk ((by rw [hg]; exact Nat.ne_of_lt (blk_lt (g := gb628) (o := .cells #[.int .i64 a0_0, .int .i64 a0_1, .slice A0_2 l0_2.length c0_2] 24 (0, 0)) (nK BK628)) : gb628 ≠ gb637)); have n9_ := Aside0.mk ((by rw [hg]; exact Nat.ne_of_gt (blk_lt (g := gb628) (o := .cells #[.int .i64 a0_0, .int .i64 a0_1, .slice A0_2 l0_2.length c0_2] 24 (0, 0)) (nK BK628)) : gb637 ≠ gb628)); have n10_ := Aside0.mk ((by rw [hg]; exact Nat.ne_of_lt (blk_lt (g := gb629) (o := .cells #[.int .i64 a1_0, .int .i64 a1_1, .slice A1_2 l1_2.length c1_2] 24 (0, 0)) (nK BK629)) : gb629 ≠ gb637)); have n11_ := Aside0.mk ((by rw [hg]; exact Nat.ne_of_gt (blk_lt (g := gb629) (o := .cells #[.int .i64 a1_0, .int .i64 a1_1, .slice A1_2 l1_2.length c1_2] 24 (0, 0)) (nK BK629)) : gb637 ≠ gb629)); have n12_ := Aside0.mk ((by rw [hg]; exact Nat.ne_of_lt (blk_lt (g := gb630) (o := .cells #[.int .i64 a2_0, .int .i64 a2_1, .slice A2_2 l2_2.length c2_2] 24 (0, 0)) (nK BK630)) : gb630 ≠ gb637)); have n13_ := Aside0.mk ((by rw [hg]; exact Nat.ne_of_gt (blk_lt (g := gb630) (o := .cells #[.int .i64 a2_0, .int .i64 a2_1, .slice A2_2 l2_2.length c2_2] 24 (0, 0)) (nK BK630)) : gb637 ≠ gb630)); clear HO635; clear BK628; clear BK629; clear BK630; clear HB; have HO635 := n0_; have BK628 := n1_; have BK629 := n2_; have BK630 := n3_; have HB := n4_; have BK637 := n5_; have GW637 := n6_; have GE637 := n7_; have NB628_637 := n8_; have NB637_628 := n9_; have NB629_637 := n10_; have NB637_629 := n11_; have NB630_637 := n12_; have NB637_630 := n13_; clear n0_ n1_ n2_ n3_ n4_ n5_ n6_ n7_ n8_ n9_ n10_ n11_ n12_ n13_; clear hb hbox hg; have hnb19 := NB637_628.out; have hnc19 := NB628_637.out; have hnb20 := NB637_629.out; have hnc20 := NB629_637.out; have hnb21 := NB637_630.out; have hnc21 := NB630_637.out; have hcz22_0 : w18.cell? ⟨gb637, 0, none⟩ = some (.int .i64 0) := (blk_cell BK637.out 0).trans rfl; have hcz22_1 : w18.cell? ⟨gb637, 1, none⟩ = some (.int .i64 0) := (blk_cell BK637.out 1).trans rfl; have hcz22_2 : w18.cell? ⟨gb637, 2, none⟩ = some (.slice none 0 0) := (blk_cell BK637.out 2).trans rfl; have hfz22_0 := blk_frozen BK637.out 0; have hfz22_1 := blk_frozen BK637.out 1; have hfz22_2 := blk_frozen BK637.out 2; obtain ⟨Ao23, co23, eo23⟩ := Kd.R_slice HO635.out; subst eo23; have hcz24_0 : w18.cell? ⟨gb629, 0, none⟩ = some (.int .i64 a1_0) := (blk_cell BK629.out 0).trans rfl; have hcz24_1 : w18.cell? ⟨gb629, 1, none⟩ = some (.int .i64 a1_1) := (blk_cell BK629.out 1).trans rfl; have hcz24_2 : w18.cell? ⟨gb629, 2, none⟩ = some (.slice A1_2 l1_2.length c1_2) := (blk_cell BK629.out 2).trans rfl; have hfz24_0 := blk_frozen BK629.out 0; have hfz24_1 := blk_frozen BK629.out 1; have hfz24_2 := blk_frozen BK629.out 2; have hcz25_0 : w18.cell? ⟨gb628, 0, none⟩ = some (.int .i64 a0_0) := (blk_cell BK628.out 0).trans rfl; have hcz25_1 : w18.cell? ⟨gb628, 1, none⟩ = some (.int .i64 a0_1) := (blk_cell BK628.out 1).trans rfl; have hcz25_2 : w18.cell? ⟨gb628, 2, none⟩ = some (.slice A0_2 l0_2.length c0_2) := (blk_cell BK628.out 2).trans rfl; have hfz25_0 := blk_frozen BK628.out 0; have hfz25_1 := blk_frozen BK628.out 1; have hfz25_2 := blk_frozen BK628.out 2) | ((with_reducible refine gate_callee (f := 14) rfl ?_); refine goesL_ (some 40) rfl rfl Try.func14 (by kernel_rfl) rfl #[.agg #[.int .i64 a1_0, .int .i64 a1_1, .slice A1_2 l1_2.length c1_2], .agg #[.int .i64 a0_0, .int .i64 a0_1, .slice A0_2 l0_2.length c0_2]] rfl (by (try simp only [List.map_toArray, List.map_cons, List.map_nil]); first | done | rfl | (simp only [List.length_drop, List.length_take]; rfl)) ?_; (with_reducible refine (curve_Join.calls a1_0 a1_1 _ _ l1_2 a0_0 a0_1 _ _ l0_2 t638 t639 t640 t643 _ ?side1 ?side2 ?side3 ?side4 A7.out).mono ?_); (case side1 => exact Kd.C_below HR1_2.out (nC HB)); (case side2 => exact HC1_2.out); (case side3 => exact Kd.C_below HR0_2.out (nC HB)); (case side4 => exact HC0_2.out); rintro e w26 ⟨v641, rfl, ho0, hb⟩; refine ⟨_, rfl, ?_⟩; have n0_ := Aside0.mk (Kd.R_elder' (by (with_reducible repeat (first | apply Kd.R_alloc | apply Kd.R_drewN | apply Kd.R_drew)); exact (Kd.R_mono (Kd.R_far (p := ⟨gb637, 2, none⟩) (Kd.R_far (p := ⟨gb637, 1, none⟩) (Kd.R_far (p := ⟨gb637, 0, none⟩) (Kd.R_types HO635.out BK637.out (by decide)) (fun _ hk => hk.2) (.int .i64 t631)) (fun _ hk => hk.2) (.int .i64 t632)) (fun _ hk => hk.2) (.slice Ao23 t633.length co23)) (fun _ h_ => h_.1))) (Kd.R_base ho0) hb); have n1_ := Aside0.mk (Kd.R_lower (Kd.R_new' ho0 (Kd.R_lt (by (with_reducible repeat (first | apply Kd.R_alloc | apply Kd.R_drewN | apply Kd.R_drew)); exact (Kd.R_mono (Kd.R_far (p := ⟨gb637, 2, none⟩) (Kd.R_far (p := ⟨gb637, 1, none⟩) (Kd.R_far (p := ⟨gb637, 0, none⟩) (Kd.R_types HO635.out BK637.out (by decide)) (fun _ hk => hk.2) (.int .i64 t631)) (fun _ hk => hk.2) (.int .i64 t632)) (fun _ hk => hk.2) (.slice Ao23 t633.length co23)) (fun _ h_ => h_.1))))) (below_size (nC HB))); have n2_ := Aside0.mk (blk_below (g := gb628) (o := .cells #[.int .i64 a0_0, .int .i64 a0_1, .slice A0_2 l0_2.length c0_2] 24 (0, 0)) (by (with_reducible repeat (first | refine blk_drewN ?_ _ | refine blk_drew ?_ | refine blk_alloc ?_ _)); refine blk_far ?_ NB628_637.out _; (with_reducible repeat (first | refine blk_drewN ?_ _ | refine blk_drew ?_ | refine blk_alloc ?_ _)); refine blk_far ?_ NB628_637.out _; (with_reducible repeat (first | refine blk_drewN ?_ _ | refine blk_drew ?_ | refine blk_alloc ?_ _)); refine blk_far ?_ NB628_637.out _; (with_reducible repeat (first | refine blk_drewN ?_ _ | refine blk_drew ?_ | refine blk_alloc ?_ _)); exact BK628.out) hb); have n3_ := Aside0.mk (blk_below (g := gb629) (o := .cells #[.int .i64 a1_0, .int .i64 a1_1, .slice A1_2 l1_2.length c1_2] 24 (0, 0)) (by (with_reducible repeat (first | refine blk_drewN ?_ _ | refine blk_drew ?_ | refine blk_alloc ?_ _)); refine blk_far ?_ NB629_637.out _; (with_reducible repeat (first | refine blk_drewN ?_ _ | refine blk_drew ?_ | refine blk_alloc ?_ _)); refine blk_far ?_ NB629_637.out _; (with_reducible repeat (first | refine blk_drewN ?_ _ | refine blk_drew ?_ | refine blk_alloc ?_ _)); refine blk_far ?_ NB629_637.out _; (with_reducible repeat (first | refine blk_drewN ?_ _ | refine blk_drew ?_ | refine blk_alloc ?_ _)); exact BK629.out) hb); have n4_ := Aside0.mk (blk_below (g := gb630) (o := .cells #[.int .i64 a2_0, .int .i64 a2_1, .slice A2_2 l2_2.length c2_2] 24 (0, 0)) (by (with_reducible repeat (first | refine blk_drewN ?_ _ | refine blk_drew ?_ | refine blk_alloc ?_ _)); refine blk_far ?_ NB630_637.out _; (with_reducible repeat (first | refine blk_drewN ?_ _ | refine blk_drew ?_ | refine blk_alloc ?_ _)); refine blk_far ?_ NB630_637.out _; (with_reducible repeat (first | refine blk_drewN ?_ _ | refine blk_drew ?_ | refine blk_alloc ?_ _)); refine blk_far ?_ NB630_637.out _; (with_reducible repeat (first | refine blk_drewN ?_ _ | refine blk_drew ?_ | refine blk_alloc ?_ _)); exact BK630.out) hb); have n5_ := Aside0.mk (blk_below (g := gb637) (o := .cells #[.int .i64 t631, .int .i64 t632, .slice Ao23 t633.length co23] 24 (0, 0)) (by (with_reducible repeat (first | refine blk_drewN ?_ _ | refine blk_drew ?_ | refine blk_alloc ?_ _)); refine blk_put (cs := #[.int .i64 t631, .int .i64 t632, .slice none 0 0]) ?_ 2 _ rfl; (with_reducible repeat (first | refine blk_drewN ?_ _ | refine blk_drew ?_ | refine blk_alloc ?_ _)); refine blk_put (cs := #[.int .i64 t631, .int .i64 0, .slice none 0 0]) ?_ 1 _ rfl; (with_reducible repeat (first | refine blk_drewN ?_ _ | refine blk_drew ?_ | refine blk_alloc ?_ _)); refine blk_put (cs := #[.int .i64 0, .int .i64 0, .slice none 0 0]) ?_ 0 _ rfl; (with_reducible repeat (first | refine blk_drewN ?_ _ | refine blk_drew ?_ | refine blk_alloc ?_ _)); exact BK637.out) hb); have n6_ := Aside0.mk (below_step (nC HB) hb); clear HO635; clear BK628; clear BK629; clear BK630; clear BK637; clear HB; have HO635 := n0_; have HO642 := n1_; have BK628 := n2_; have BK629 := n3_; have BK630 := n4_; have BK637 := n5_; have HB := n6_; clear n0_ n1_ n2_ n3_ n4_ n5_ n6_; (try clear hb); (try clear hb2); (try clear hk); (try clear hi); (try clear ho0)) | ((with_reducible refine gate_dst (N := 13) rfl ?_); refine box_event ?hg (N := 13) ?hd (cs := #[.int .i64 0, .int .i64 0, .slice none 0 0]) (t := 24) ?hr ?_; (case hd => rfl); (case hg => rfl); (case hr => first | (go_simp; done) | (go_simp; rfl)); intro gb644 hg w27 hbox hb; have n0_ := Aside0.mk (Kd.R_below (nR HO635) hb); have n1_ := Aside0.mk (Kd.R_below (nR HO642) hb); have n2_ := Aside0.mk (nB BK628 hb); have n3_ := Aside0.mk (nB BK629 hb); have n4_ := Aside0.mk (nB BK630 hb); have n5_ := Aside0.mk (nB BK637 hb); have n6_ := Aside0.mk (below_step (nC HB) hb); have n7_ := Aside0.mk (hbox); have n8_ := Aside0.mk ((by rw [hg]; exact (below_size (nC HB)) : w.heap.size ≤ gb644)); have n9_ := Aside0.mk ((by rw [hg]; exact (below_size (nC HB)) : w.heap.size ≤ gb644)); have n10_ := Aside0.mk ((by rw [hg]; exact Nat.ne_of_lt (blk_lt (g := gb628) (o := .cells #[.int .i64 a0_0, .int .i64 a0_1, .slice A0_2 l0_2.length c0_2] 24 (0, 0)) (nK BK628)) : gb628 ≠ gb644)); have n11_ := Aside0.mk ((by rw [hg]; exact Nat.ne_of_gt (blk_lt (g := gb628) (o := .cells #[.int .i64 a0_0, .int .i64 a0_1, .slice A0_2 l0_2.length c0_2] 24 (0, 0)) (nK BK628)) : gb644 ≠ gb628)); have n12_ := Aside0.mk ((by rw [hg]; exact Nat.ne_of_lt (blk_lt (g := gb629) (o := .cells #[.int .i64 a1_0, .int .i64 a1_1, .slice A1_2 l1_2.length c1_2] 24 (0, 0)) (nK BK629)) : gb629 ≠ gb644)); have n13_ := Aside0.mk ((by rw [hg]; exact Nat.ne_of_gt (blk_lt (g := gb629) (o := .cells #[.int .i64 a1_0, .int .i64 a1_1, .slice A1_2 l1_2.length c1_2] 24 (0, 0)) (nK BK629)) : gb644 ≠ gb629)); have n14_ := Aside0.mk ((by rw [hg]; exact Nat.ne_of_lt (blk_lt (g := gb630) (o := .cells #[.int .i64 a2_0, .int .i64 a2_1, .slice A2_2 l2_2.length c2_2] 24 (0, 0)) (nK BK630)) : gb630 ≠ gb644)); have n15_ := Aside0.mk ((by rw [hg]; exact Nat.ne_of_gt (blk_lt (g := gb630) (o := .cells #[.int .i64 a2_0, .int .i64 a2_1, .slice A2_2 l2_2.length c2_2] 24 (0, 0)) (nK BK630)) : gb644 ≠ gb630)); have n16_ := Aside0.mk ((by rw [hg]; exact Nat.ne_of_lt (blk_lt (g := gb637) (o := .cells #[.int .i64 t631, .int .i64 t632, .slice Ao23 t633.length co23] 24 (0, 0)) (nK BK637)) : gb637 ≠ gb644)); have n17_ := Aside0.mk ((by rw [hg]; exact Nat.ne_of_gt (blk_lt (g := gb637) (o := .cells #[.int .i64 t631, .int .i64 t632, .slice Ao23 t633.length co23] 24 (0, 0)) (nK BK637)) : gb644 ≠ gb637)); clear HO635; clear HO642; clear BK628; clear BK629; clear BK630; clear BK637; clear HB; have HO635 := n0_; have HO642 := n1_; have BK628 := n2_; have BK629 := n3_; have BK630 := n4_; have BK637 := n5_; have HB := n6_; have BK644 := n7_; have GW644 := n8_; have GE644 := n9_; have NB628_644 := n10_; have NB644_628 := n11_; have NB629_644 := n12_; have NB644_629 := n13_; have NB630_644 := n14_; have NB644_630 := n15_; have NB637_644 := n16_; have NB644_637 := n17_; clear n0_ n1_ n2_ n3_ n4_ n5_ n6_ n7_ n8_ n9_ n10_ n11_ n12_ n13_ n14_ n15_ n16_ n17_; clear hb hbox hg; have hnb28 := NB644_628.out; have hnc28 := NB628_644.out; have hnb29 := NB644_629.out; have hnc29 := NB629_644.out; have hnb30 := NB644_630.out; have hnc30 := NB630_644.out; have hnb31 := NB644_637.out; have hnc31 := NB637_644.out; have hcz32_0 : w27.cell? ⟨gb644, 0, none⟩ = some (.int .i64 0) := (blk_cell BK644.out 0).trans rfl; have hcz32_1 : w27.cell? ⟨gb644, 1, none⟩ = some (.int .i64 0) := (blk_cell BK644.out 1).trans rfl; have hcz32_2 : w27.cell? ⟨gb644, 2, none⟩ = some (.slice none 0 0) := (blk_cell BK644.out 2).trans rfl; have hfz32_0 := blk_frozen BK644.out 0; have hfz32_1 := blk_frozen BK644.out 1; have hfz32_2 := blk_frozen BK644.out 2; obtain ⟨Ao33, co33, eo33⟩ := Kd.R_slice HO642.out; subst eo33))
 (try simp only [Act.put, List.setIfInBounds_toArray, List.set_cons_zero, List.set_cons_succ])
 go_cut [51] (fun v51 wc => ∃ (kq : Nat) (x51_7 : Bool), v51 = .bool x51_7 ∧ Aside0 (kimberlitelaw03_CurveJoins.j0 kq a3 a4 t636 x51_7 a0_0 a0_1 l0_2 a1_0 a1_1 l1_2 a2_0 a2_1 l2_2 t631 t632 t633 = some r) ∧ Aside0 (kq ≤ k) ∧ Aside0 (Kd.R (Kd.int .i64) 3 wc w.heap.size (fun k_ => some k_ ≠ ((.slice Ao33 t640.length co33) : Value).ownBlock) (.slice Ao23 t633.length co23) t633) ∧ Aside0 (Kd.R (Kd.int .i64) 3 wc w.heap.size (fun k_ => some k_ ≠ ((.slice Ao23 t633.length co23) : Value).ownBlock) (.slice Ao33 t640.length co33) t640) ∧ Aside0 (wc.heap[gb628]? = some (.cells #[.int .i64 a0_0, .int .i64 a0_1, (.slice A0_2 l0_2.length c0_2)] 24 (0, 0))) ∧ Aside0 (wc.heap[gb629]? = some (.cells #[.int .i64 a1_0, .int .i64 a1_1, (.slice A1_2 l1_2.length c1_2)] 24 (0, 0))) ∧ Aside0 (wc.heap[gb630]? = some (.cells #[.int .i64 a2_0, .int .i64 a2_1, (.slice A2_2 l2_2.length c2_2)] 24 (0, 0))) ∧ Aside0 (wc.heap[gb637]? = some (.cells #[.int .i64 t631, .int .i64 t632, (.slice Ao23 t633.length co23)] 24 (0, 0))) ∧ Aside0 (wc.heap[gb644]? = some (.cells #[.int .i64 t638, .int .i64 t639, (.slice Ao33 t640.length co33)] 24 (0, 0))) ∧ Aside0 (Below w.heap.size w wc))
 case first =>
  as_aux_lemma =>
  have H := HC8.out
  clear HC8
  replace H := Option.bind_eq_some_iff.mp H
  obtain ⟨t645, A340, H⟩ := H
  replace H : (if t645 = true then (kimberlitelaw03_CurveJoins.j0 k a3 a4 t636 (t636 != t643) a0_0 a0_1 l0_2 a1_0 a1_1 l1_2 a2_0 a2_1 l2_2 t631 t632 t633) else (kimberlitelaw03_CurveJoins.j0 k a3 a4 t636 true a0_0 a0_1 l0_2 a1_0 a1_1 l1_2 a2_0 a2_1 l2_2 t631 t632 t633)) = some r := H
  have A34 := Aside0.mk A340
  clear A340
  by_cases c35 : t645 = true
  · subst c35
    have H1 : (kimberlitelaw03_CurveJoins.j0 k a3 a4 t636 (t636 != t643) a0_0 a0_1 l0_2 a1_0 a1_1 l1_2 a2_0 a2_1 l2_2 t631 t632 t633) = some r := by rw [if_pos rfl] at H; exact H
    clear H
    have H := H1
    clear H1
    have H' := Aside0.mk H
    clear H
    have hnb36 := NB637_628.out
    have hnc36 := NB628_637.out
    have hnb37 := NB637_629.out
    have hnc37 := NB629_637.out
    have hnb38 := NB637_630.out
    have hnc38 := NB630_637.out
    have hnb39 := NB637_644.out
    have hnc39 := NB644_637.out
    have hcz40_0 : w27.cell? ⟨gb637, 0, none⟩ = some (.int .i64 t631) := (blk_cell BK637.out 0).trans rfl
    have hcz40_1 : w27.cell? ⟨gb637, 1, none⟩ = some (.int .i64 t632) := (blk_cell BK637.out 1).trans rfl
    have hcz40_2 : w27.cell? ⟨gb637, 2, none⟩ = some (.slice Ao23 t633.length co23) := (blk_cell BK637.out 2).trans rfl
    have hfz40_0 := blk_frozen BK637.out 0
    have hfz40_1 := blk_frozen BK637.out 1
    have hfz40_2 := blk_frozen BK637.out 2
    have hnb41 := NB644_628.out
    have hnc41 := NB628_644.out
    have hnb42 := NB644_629.out
    have hnc42 := NB629_644.out
    have hnb43 := NB644_630.out
    have hnc43 := NB630_644.out
    have hcz44_0 : w27.cell? ⟨gb644, 0, none⟩ = some (.int .i64 0) := (blk_cell BK644.out 0).trans rfl
    have hcz44_1 : w27.cell? ⟨gb644, 1, none⟩ = some (.int .i64 0) := (blk_cell BK644.out 1).trans rfl
    have hcz44_2 : w27.cell? ⟨gb644, 2, none⟩ = some (.slice none 0 0) := (blk_cell BK644.out 2).trans rfl
    have hfz44_0 := blk_frozen BK644.out 0
    have hfz44_1 := blk_frozen BK644.out 1
    have hfz44_2 := blk_frozen BK644.out 2
    go_wp2_with (first | ((with_reducible refine gate_callee (f := 15) rfl ?_); refine goesL_ (some 45) rfl rfl Try.func15 (by kernel_rfl) rfl #[.agg #[.int .i64 t631, .int .i64 t632, .slice Ao23 t633.length co23], .agg #[.int .i64 t638, .int .i64 t639, .slice Ao33 t640.length co33]] rfl (by (try simp only [List.map_toArray, List.map_cons, List.map_nil]); first | done | rfl | (simp only [List.length_drop, List.length_take]; rfl)) ?_; (with_reducible refine (kimberlitelaw03_alike.calls k t631 t632 _ _ t633 t638 t639 _ _ t640 true _ ?side1 ?side2 ?side3 ?side4 A34.out).mono ?_); (case side1 => refine (Kd.R_reads' (e := 3) (base := w.heap.size) (ok := fun k_ => (True ∧ some k_ ≠ (.slice Ao33 t640.length co33 : Value).ownBlock)) (n := t633.length) (c := co23) ?_).2.2; exact (by (with_reducible repeat (first | apply Kd.R_alloc | apply Kd.R_drewN | apply Kd.R_drew)); exact (Kd.R_mono (Kd.R_far (p := ⟨gb644, 2, none⟩) (Kd.R_far (p := ⟨gb644, 1, none⟩) (Kd.R_far (p := ⟨gb644, 0, none⟩) (Kd.R_types HO635.out BK644.out (by decide)) (fun _ hk => hk.2) (.int .i64 t638)) (fun _ hk => hk.2) (.int .i64 t639)) (fun _ hk => hk.2) (.slice Ao33 t640.length co33)) (fun _ h_ => h_.1)))); (case side2 => exact (Kd.R_reads' HO635.out).2.1); (case side3 => refine (Kd.R_reads' (e := 3) (base := w.heap.size) (ok := fun k_ => (True ∧ some k_ ≠ (.slice Ao23 t633.length co23 : Value).ownBlock)) (n := t640.length) (c := co33) ?_).2.2; exact (by (with_reducible repeat (first | apply Kd.R_alloc | apply Kd.R_drewN | apply Kd.R_drew)); exact (Kd.R_mono (Kd.R_far (p := ⟨gb644, 2, none⟩) (Kd.R_far (p := ⟨gb644, 1, none⟩) (Kd.R_far (p := ⟨gb644, 0, none⟩) (Kd.R_types HO642.out BK644.out (by decide)) (fun _ hk => hk.2) (.int .i64 t638)) (fun _ hk => hk.2) (.int .i64 t639)) (fun _ hk => hk.2) (.slice Ao33 t640.length co33)) (fun _ h_ => h_.1)))); (case side4 => exact (Kd.R_reads' HO642.out).2.1); rintro e w45 ⟨rfl, hb⟩; refine ⟨_, rfl, ?_⟩; have n0_ := Aside0.mk (Kd.R_below (by (with_reducible repeat (first | apply Kd.R_alloc | apply Kd.R_drewN | apply Kd.R_drew)); exact (Kd.R_mono (Kd.R_far (p := ⟨gb644, 2, none⟩) (Kd.R_far (p := ⟨gb644, 1, none⟩) (Kd.R_far (p := ⟨gb644, 0, none⟩) (Kd.R_types HO635.out BK644.out (by decide)) (fun _ hk => hk.2) (.int .i64 t638)) (fun _ hk => hk.2) (.int .i64 t639)) (fun _ hk => hk.2) (.slice Ao33 t640.length co33)) (fun _ h_ => h_.1))) hb); have n1_ := Aside0.mk (Kd.R_below (by (with_reducible repeat (first | apply Kd.R_alloc | apply Kd.R_drewN | apply Kd.R_drew)); exact (Kd.R_mono (Kd.R_far (p := ⟨gb644, 2, none⟩) (Kd.R_far (p := ⟨gb644, 1, none⟩) (Kd.R_far (p := ⟨gb644, 0, none⟩) (Kd.R_types HO642.out BK644.out (by decide)) (fun _ hk => hk.2) (.int .i64 t638)) (fun _ hk => hk.2) (.int .i64 t639)) (fun _ hk => hk.2) (.slice Ao33 t640.length co33)) (fun _ h_ => h_.1))) hb); have n2_ := Aside0.mk (blk_below (g := gb628) (o := .cells #[.int .i64 a0_0, .int .i64 a0_1, .slice A0_2 l0_2.length c0_2] 24 (0, 0)) (by (with_reducible repeat (first | refine blk_drewN ?_ _ | refine blk_drew ?_ | refine blk_alloc ?_ _)); refine blk_far ?_ NB628_644.out _; (with_reducible repeat (first | refine blk_drewN ?_ _ | refine blk_drew ?_ | refine blk_alloc ?_ _)); refine blk_far ?_ NB628_644.out _; (with_reducible repeat (first | refine blk_drewN ?_ _ | refine blk_drew ?_ | refine blk_alloc ?_ _)); refine blk_far ?_ NB628_644.out _; (with_reducible repeat (first | refine blk_drewN ?_ _ | refine blk_drew ?_ | refine blk_alloc ?_ _)); exact BK628.out) hb); have n3_ := Aside0.mk (blk_below (g := gb629) (o := .cells #[.int .i64 a1_0, .int .i64 a1_1, .slice A1_2 l1_2.length c1_2] 24 (0, 0)) (by (with_reducible repeat (first | refine blk_drewN ?_ _ | refine blk_drew ?_ | refine blk_alloc ?_ _)); refine blk_far ?_ NB629_644.out _; (with_reducible repeat (first | refine blk_drewN ?_ _ | refine blk_drew ?_ | refine blk_alloc ?_ _)); refine blk_far ?_ NB629_644.out _; (with_reducible repeat (first | refine blk_drewN ?_ _ | refine blk_drew ?_ | refine blk_alloc ?_ _)); refine blk_far ?_ NB629_644.out _; (with_reducible repeat (first | refine blk_drewN ?_ _ | refine blk_drew ?_ | refine blk_alloc ?_ _)); exact BK629.out) hb); have n4_ := Aside0.mk (blk_below (g := gb630) (o := .cells #[.int .i64 a2_0, .int .i64 a2_1, .slice A2_2 l2_2.length c2_2] 24 (0, 0)) (by (with_reducible repeat (first | refine blk_drewN ?_ _ | refine blk_drew ?_ | refine blk_alloc ?_ _)); refine blk_far ?_ NB630_644.out _; (with_reducible repeat (first | refine blk_drewN ?_ _ | refine blk_drew ?_ | refine blk_alloc ?_ _)); refine blk_far ?_ NB630_644.out _; (with_reducible repeat (first | refine blk_drewN ?_ _ | refine blk_drew ?_ | refine blk_alloc ?_ _)); refine blk_far ?_ NB630_644.out _; (with_reducible repeat (first | refine blk_drewN ?_ _ | refine blk_drew ?_ | refine blk_alloc ?_ _)); exact BK630.out) hb); have n5_ := Aside0.mk (blk_below (g := gb637) (o := .cells #[.int .i64 t631, .int .i64 t632, .slice Ao23 t633.length co23] 24 (0, 0)) (by (with_reducible repeat (first | refine blk_drewN ?_ _ | refine blk_drew ?_ | refine blk_alloc ?_ _)); refine blk_far ?_ NB637_644.out _; (with_reducible repeat (first | refine blk_drewN ?_ _ | refine blk_drew ?_ | refine blk_alloc ?_ _)); refine blk_far ?_ NB637_644.out _; (with_reducible repeat (first | refine blk_drewN ?_ _ | refine blk_drew ?_ | refine blk_alloc ?_ _)); refine blk_far ?_ NB637_644.out _; (with_reducible repeat (first | refine blk_drewN ?_ _ | refine blk_drew ?_ | refine blk_alloc ?_ _)); exact BK637.out) hb); have n6_ := Aside0.mk (blk_below (g := gb644) (o := .cells #[.int .i64 t638, .int .i64 t639, .slice Ao33 t640.length co33] 24 (0, 0)) (by (with_reducible repeat (first | refine blk_drewN ?_ _ | refine blk_drew ?_ | refine blk_alloc ?_ _)); refine blk_put (cs := #[.int .i64 t638, .int .i64 t639, .slice none 0 0]) ?_ 2 _ rfl; (with_reducible repeat (first | refine blk_drewN ?_ _ | refine blk_drew ?_ | refine blk_alloc ?_ _)); refine blk_put (cs := #[.int .i64 t638, .int .i64 0, .slice none 0 0]) ?_ 1 _ rfl; (with_reducible repeat (first | refine blk_drewN ?_ _ | refine blk_drew ?_ | refine blk_alloc ?_ _)); refine blk_put (cs := #[.int .i64 0, .int .i64 0, .slice none 0 0]) ?_ 0 _ rfl; (with_reducible repeat (first | refine blk_drewN ?_ _ | refine blk_drew ?_ | refine blk_alloc ?_ _)); exact BK644.out) hb); have n7_ := Aside0.mk (below_step (nC HB) hb); clear HO635; clear HO642; clear BK628; clear BK629; clear BK630; clear BK637; clear BK644; clear HB; have HO635 := n0_; have HO642 := n1_; have BK628 := n2_; have BK629 := n3_; have BK630 := n4_; have BK637 := n5_; have BK644 := n6_; have HB := n7_; clear n0_ n1_ n2_ n3_ n4_ n5_ n6_ n7_; (try clear hb); (try clear hb2); (try clear hk); (try clear hi)))
    go_meet
    case rel => exact ⟨_, ((t636 != t643)), (by first | rfl | (simp; done) | (simp [*]; done)), H', ⟨by first | omega | exact Nat.le_refl _⟩, ⟨by (with_reducible repeat (first | apply Kd.R_alloc | apply Kd.R_drewN | apply Kd.R_drew)); exact Kd.R_mono HO635.out (fun _ hk => hk.2)⟩, ⟨by (with_reducible repeat (first | apply Kd.R_alloc | apply Kd.R_drewN | apply Kd.R_drew)); exact Kd.R_mono HO642.out (fun _ hk => hk.2)⟩, ⟨nK BK628⟩, ⟨nK BK629⟩, ⟨nK BK630⟩, ⟨nK BK637⟩, ⟨nK BK644⟩, ⟨nC HB⟩⟩
  · replace c35 := Bool.eq_false_iff.mpr c35
    subst c35
    have H1 : (kimberlitelaw03_CurveJoins.j0 k a3 a4 t636 true a0_0 a0_1 l0_2 a1_0 a1_1 l1_2 a2_0 a2_1 l2_2 t631 t632 t633) = some r := by rw [if_neg (show ¬ (false = true) by decide)] at H; exact H
    clear H
    have H := H1
    clear H1
    have H' := Aside0.mk H
    clear H
    have hnb46 := NB637_628.out
    have hnc46 := NB628_637.out
    have hnb47 := NB637_629.out
    have hnc47 := NB629_637.out
    have hnb48 := NB637_630.out
    have hnc48 := NB630_637.out
    have hnb49 := NB637_644.out
    have hnc49 := NB644_637.out
    have hcz50_0 : w27.cell? ⟨gb637, 0, none⟩ = some (.int .i64 t631) := (blk_cell BK637.out 0).trans rfl
    have hcz50_1 : w27.cell? ⟨gb637, 1, none⟩ = some (.int .i64 t632) := (blk_cell BK637.out 1).trans rfl
    have hcz50_2 : w27.cell? ⟨gb637, 2, none⟩ = some (.slice Ao23 t633.length co23) := (blk_cell BK637.out 2).trans rfl
    have hfz50_0 := blk_frozen BK637.out 0
    have hfz50_1 := blk_frozen BK637.out 1
    have hfz50_2 := blk_frozen BK637.out 2
    have hnb51 := NB644_628.out
    have hnc51 := NB628_644.out
    have hnb52 := NB644_629.out
    have hnc52 := NB629_644.out
    have hnb53 := NB644_630.out
    have hnc53 := NB630_644.out
    have hcz54_0 : w27.cell? ⟨gb644, 0, none⟩ = some (.int .i64 0) := (blk_cell BK644.out 0).trans rfl
    have hcz54_1 : w27.cell? ⟨gb644, 1, none⟩ = some (.int .i64 0) := (blk_cell BK644.out 1).trans rfl
    have hcz54_2 : w27.cell? ⟨gb644, 2, none⟩ = some (.slice none 0 0) := (blk_cell BK644.out 2).trans rfl
    have hfz54_0 := blk_frozen BK644.out 0
    have hfz54_1 := blk_frozen BK644.out 1
    have hfz54_2 := blk_frozen BK644.out 2
    go_wp2_with (first | ((with_reducible refine gate_callee (f := 15) rfl ?_); refine goesL_ (some 45) rfl rfl Try.func15 (by kernel_rfl) rfl #[.agg #[.int .i64 t631, .int .i64 t632, .slice Ao23 t633.length co23], .agg #[.int .i64 t638, .int .i64 t639, .slice Ao33 t640.length co33]] rfl (by (try simp only [List.map_toArray, List.map_cons, List.map_nil]); first | done | rfl | (simp only [List.length_drop, List.length_take]; rfl)) ?_; (with_reducible refine (kimberlitelaw03_alike.calls k t631 t632 _ _ t633 t638 t639 _ _ t640 false _ ?side1 ?side2 ?side3 ?side4 A34.out).mono ?_); (case side1 => refine (Kd.R_reads' (e := 3) (base := w.heap.size) (ok := fun k_ => (True ∧ some k_ ≠ (.slice Ao33 t640.length co33 : Value).ownBlock)) (n := t633.length) (c := co23) ?_).2.2; exact (by (with_reducible repeat (first | apply Kd.R_alloc | apply Kd.R_drewN | apply Kd.R_drew)); exact (Kd.R_mono (Kd.R_far (p := ⟨gb644, 2, none⟩) (Kd.R_far (p := ⟨gb644, 1, none⟩) (Kd.R_far (p := ⟨gb644, 0, none⟩) (Kd.R_types HO635.out BK644.out (by decide)) (fun _ hk => hk.2) (.int .i64 t638)) (fun _ hk => hk.2) (.int .i64 t639)) (fun _ hk => hk.2) (.slice Ao33 t640.length co33)) (fun _ h_ => h_.1)))); (case side2 => exact (Kd.R_reads' HO635.out).2.1); (case side3 => refine (Kd.R_reads' (e := 3) (base := w.heap.size) (ok := fun k_ => (True ∧ some k_ ≠ (.slice Ao23 t633.length co23 : Value).ownBlock)) (n := t640.length) (c := co33) ?_).2.2; exact (by (with_reducible repeat (first | apply Kd.R_alloc | apply Kd.R_drewN | apply Kd.R_drew)); exact (Kd.R_mono (Kd.R_far (p := ⟨gb644, 2, none⟩) (Kd.R_far (p := ⟨gb644, 1, none⟩) (Kd.R_far (p := ⟨gb644, 0, none⟩) (Kd.R_types HO642.out BK644.out (by decide)) (fun _ hk => hk.2) (.int .i64 t638)) (fun _ hk => hk.2) (.int .i64 t639)) (fun _ hk => hk.2) (.slice Ao33 t640.length co33)) (fun _ h_ => h_.1)))); (case side4 => exact (Kd.R_reads' HO642.out).2.1); rintro e w55 ⟨rfl, hb⟩; refine ⟨_, rfl, ?_⟩; have n0_ := Aside0.mk (Kd.R_below (by (with_reducible repeat (first | apply Kd.R_alloc | apply Kd.R_drewN | apply Kd.R_drew)); exact (Kd.R_mono (Kd.R_far (p := ⟨gb644, 2, none⟩) (Kd.R_far (p := ⟨gb644, 1, none⟩) (Kd.R_far (p := ⟨gb644, 0, none⟩) (Kd.R_types HO635.out BK644.out (by decide)) (fun _ hk => hk.2) (.int .i64 t638)) (fun _ hk => hk.2) (.int .i64 t639)) (fun _ hk => hk.2) (.slice Ao33 t640.length co33)) (fun _ h_ => h_.1))) hb); have n1_ := Aside0.mk (Kd.R_below (by (with_reducible repeat (first | apply Kd.R_alloc | apply Kd.R_drewN | apply Kd.R_drew)); exact (Kd.R_mono (Kd.R_far (p := ⟨gb644, 2, none⟩) (Kd.R_far (p := ⟨gb644, 1, none⟩) (Kd.R_far (p := ⟨gb644, 0, none⟩) (Kd.R_types HO642.out BK644.out (by decide)) (fun _ hk => hk.2) (.int .i64 t638)) (fun _ hk => hk.2) (.int .i64 t639)) (fun _ hk => hk.2) (.slice Ao33 t640.length co33)) (fun _ h_ => h_.1))) hb); have n2_ := Aside0.mk (blk_below (g := gb628) (o := .cells #[.int .i64 a0_0, .int .i64 a0_1, .slice A0_2 l0_2.length c0_2] 24 (0, 0)) (by (with_reducible repeat (first | refine blk_drewN ?_ _ | refine blk_drew ?_ | refine blk_alloc ?_ _)); refine blk_far ?_ NB628_644.out _; (with_reducible repeat (first | refine blk_drewN ?_ _ | refine blk_drew ?_ | refine blk_alloc ?_ _)); refine blk_far ?_ NB628_644.out _; (with_reducible repeat (first | refine blk_drewN ?_ _ | refine blk_drew ?_ | refine blk_alloc ?_ _)); refine blk_far ?_ NB628_644.out _; (with_reducible repeat (first | refine blk_drewN ?_ _ | refine blk_drew ?_ | refine blk_alloc ?_ _)); exact BK628.out) hb); have n3_ := Aside0.mk (blk_below (g := gb629) (o := .cells #[.int .i64 a1_0, .int .i64 a1_1, .slice A1_2 l1_2.length c1_2] 24 (0, 0)) (by (with_reducible repeat (first | refine blk_drewN ?_ _ | refine blk_drew ?_ | refine blk_alloc ?_ _)); refine blk_far ?_ NB629_644.out _; (with_reducible repeat (first | refine blk_drewN ?_ _ | refine blk_drew ?_ | refine blk_alloc ?_ _)); refine blk_far ?_ NB629_644.out _; (with_reducible repeat (first | refine blk_drewN ?_ _ | refine blk_drew ?_ | refine blk_alloc ?_ _)); refine blk_far ?_ NB629_644.out _; (with_reducible repeat (first | refine blk_drewN ?_ _ | refine blk_drew ?_ | refine blk_alloc ?_ _)); exact BK629.out) hb); have n4_ := Aside0.mk (blk_below (g := gb630) (o := .cells #[.int .i64 a2_0, .int .i64 a2_1, .slice A2_2 l2_2.length c2_2] 24 (0, 0)) (by (with_reducible repeat (first | refine blk_drewN ?_ _ | refine blk_drew ?_ | refine blk_alloc ?_ _)); refine blk_far ?_ NB630_644.out _; (with_reducible repeat (first | refine blk_drewN ?_ _ | refine blk_drew ?_ | refine blk_alloc ?_ _)); refine blk_far ?_ NB630_644.out _; (with_reducible repeat (first | refine blk_drewN ?_ _ | refine blk_drew ?_ | refine blk_alloc ?_ _)); refine blk_far ?_ NB630_644.out _; (with_reducible repeat (first | refine blk_drewN ?_ _ | refine blk_drew ?_ | refine blk_alloc ?_ _)); exact BK630.out) hb); have n5_ := Aside0.mk (blk_below (g := gb637) (o := .cells #[.int .i64 t631, .int .i64 t632, .slice Ao23 t633.length co23] 24 (0, 0)) (by (with_reducible repeat (first | refine blk_drewN ?_ _ | refine blk_drew ?_ | refine blk_alloc ?_ _)); refine blk_far ?_ NB637_644.out _; (with_reducible repeat (first | refine blk_drewN ?_ _ | refine blk_drew ?_ | refine blk_alloc ?_ _)); refine blk_far ?_ NB637_644.out _; (with_reducible repeat (first | refine blk_drewN ?_ _ | refine blk_drew ?_ | refine blk_alloc ?_ _)); refine blk_far ?_ NB637_644.out _; (with_reducible repeat (first | refine blk_drewN ?_ _ | refine blk_drew ?_ | refine blk_alloc ?_ _)); exact BK637.out) hb); have n6_ := Aside0.mk (blk_below (g := gb644) (o := .cells #[.int .i64 t638, .int .i64 t639, .slice Ao33 t640.length co33] 24 (0, 0)) (by (with_reducible repeat (first | refine blk_drewN ?_ _ | refine blk_drew ?_ | refine blk_alloc ?_ _)); refine blk_put (cs := #[.int .i64 t638, .int .i64 t639, .slice none 0 0]) ?_ 2 _ rfl; (with_reducible repeat (first | refine blk_drewN ?_ _ | refine blk_drew ?_ | refine blk_alloc ?_ _)); refine blk_put (cs := #[.int .i64 t638, .int .i64 0, .slice none 0 0]) ?_ 1 _ rfl; (with_reducible repeat (first | refine blk_drewN ?_ _ | refine blk_drew ?_ | refine blk_alloc ?_ _)); refine blk_put (cs := #[.int .i64 0, .int .i64 0, .slice none 0 0]) ?_ 0 _ rfl; (with_reducible repeat (first | refine blk_drewN ?_ _ | refine blk_drew ?_ | refine blk_alloc ?_ _)); exact BK644.out) hb); have n7_ := Aside0.mk (below_step (nC HB) hb); clear HO635; clear HO642; clear BK628; clear BK629; clear BK630; clear BK637; clear BK644; clear HB; have HO635 := n0_; have HO642 := n1_; have BK628 := n2_; have BK629 := n3_; have BK630 := n4_; have BK637 := n5_; have BK644 := n6_; have HB := n7_; clear n0_ n1_ n2_ n3_ n4_ n5_ n6_ n7_; (try clear hb); (try clear hb2); (try clear hk); (try clear hi)))
    go_meet
    case rel => exact ⟨_, (true), (by first | rfl | (simp; done) | (simp [*]; done)), H', ⟨by first | omega | exact Nat.le_refl _⟩, ⟨by (with_reducible repeat (first | apply Kd.R_alloc | apply Kd.R_drewN | apply Kd.R_drew)); exact Kd.R_mono HO635.out (fun _ hk => hk.2)⟩, ⟨by (with_reducible repeat (first | apply Kd.R_alloc | apply Kd.R_drewN | apply Kd.R_drew)); exact Kd.R_mono HO642.out (fun _ hk => hk.2)⟩, ⟨nK BK628⟩, ⟨nK BK629⟩, ⟨nK BK630⟩, ⟨nK BK637⟩, ⟨nK BK644⟩, ⟨nC HB⟩⟩
 case rest =>
  as_aux_lemma =>
  clear HC8
  try clear c1
  try clear c2
  try clear p2
  try clear c3
  try clear c4
  try clear c5
  try clear c12
  try clear c13
  try clear c14
  try clear c15
  try clear c19
  try clear c20
  try clear c21
  try clear c28
  try clear c29
  try clear c30
  try clear c31
  try clear c35
  try clear c36
  try clear c37
  try clear c38
  try clear c39
  try clear c41
  try clear c42
  try clear c43
  try clear c46
  try clear c47
  try clear c48
  try clear c49
  try clear c51
  try clear c52
  try clear c53
  try clear hcz14_0
  try clear hcz14_1
  try clear hcz14_2
  try clear hcz16_0
  try clear hcz16_1
  try clear hcz16_2
  try clear hcz22_0
  try clear hcz22_1
  try clear hcz22_2
  try clear hcz24_0
  try clear hcz24_1
  try clear hcz24_2
  try clear hcz25_0
  try clear hcz25_1
  try clear hcz25_2
  try clear hcz32_0
  try clear hcz32_1
  try clear hcz32_2
  try clear hcz40_0
  try clear hcz40_1
  try clear hcz40_2
  try clear hcz44_0
  try clear hcz44_1
  try clear hcz44_2
  try clear hcz50_0
  try clear hcz50_1
  try clear hcz50_2
  try clear hcz54_0
  try clear hcz54_1
  try clear hcz54_2
  try clear hfz14_0
  try clear hfz14_1
  try clear hfz14_2
  try clear hfz16_0
  try clear hfz16_1
  try clear hfz16_2
  try clear hfz22_0
  try clear hfz22_1
  try clear hfz22_2
  try clear hfz24_0
  try clear hfz24_1
  try clear hfz24_2
  try clear hfz25_0
  try clear hfz25_1
  try clear hfz25_2
  try clear hfz32_0
  try clear hfz32_1
  try clear hfz32_2
  try clear hfz40_0
  try clear hfz40_1
  try clear hfz40_2
  try clear hfz44_0
  try clear hfz44_1
  try clear hfz44_2
  try clear hfz50_0
  try clear hfz50_1
  try clear hfz50_2
  try clear hfz54_0
  try clear hfz54_1
  try clear hfz54_2
  obtain ⟨kq, x51_7, rfl, HA, HJ7, HO_638002, HO_645002, BK628, BK629, BK630, BK637, BK644, HB⟩ := hcut
  cases kq with
  | zero => exact absurd HA.out (by simp [kimberlitelaw03_CurveJoins.j0])
  | succ kj7 =>
   have H := HA.out
   clear HA
   simp only [kimberlitelaw03_CurveJoins.j0] at H
   by_cases c56 : x51_7 = true
   · subst c56
     have H1 : (some false) = some r := by rw [if_pos rfl] at H; exact H
     clear H
     have H := H1
     clear H1
     obtain rfl := Option.some.inj H
     go_wp2
     go_ret
     exact ⟨by first | rfl | (simp [errW_none, errW_some] <;> rfl) | (simp [*, errW_none, errW_some] <;> rfl), nC HB⟩
   · replace c56 := Bool.eq_false_iff.mpr c56
     subst c56
     have H1 : (if t636 = 0 then ((curve_Join.f t631 t632 t633 a2_0 a2_1 l2_2).bind fun bt650 => ((curve_Join.f a1_0 a1_1 l1_2 a2_0 a2_1 l2_2).bind fun bt657 => ((curve_Join.f a0_0 a0_1 l0_2 bt657.1 bt657.2.1 bt657.2.2.1).bind fun bt664 => (if bt650.2.2.2 = 0 then (if bt657.2.2.2 = 0 then (if bt664.2.2.2 = 0 then ((kimberlitelaw03_alike.f kj7 bt650.1 bt650.2.1 bt650.2.2.1 bt664.1 bt664.2.1 bt664.2.2.1).bind fun t671 => (kimberlitelaw03_CurveJoins.j1 kj7 a3 a4 (!t671) a0_0 a0_1 l0_2 a1_0 a1_1 l1_2 t631 t632 t633)) else (kimberlitelaw03_CurveJoins.j1 kj7 a3 a4 false a0_0 a0_1 l0_2 a1_0 a1_1 l1_2 t631 t632 t633)) else (kimberlitelaw03_CurveJoins.j1 kj7 a3 a4 false a0_0 a0_1 l0_2 a1_0 a1_1 l1_2 t631 t632 t633)) else (kimberlitelaw03_CurveJoins.j1 kj7 a3 a4 false a0_0 a0_1 l0_2 a1_0 a1_1 l1_2 t631 t632 t633))))) else ((curve_Valid.f a0_0 a0_1 l0_2).bind fun t646 => (if t646 = true then ((curve_Valid.f a1_0 a1_1 l1_2).bind fun t647 => (if ((t636 == 2) == (!t647)) = true then ((kimberlitelaw03_alive.f).bind fun t648 => (some t648)) else (some false))) else (if ((t636 == 2) == true) = true then ((kimberlitelaw03_alive.f).bind fun t649 => (some t649)) else (some false))))) = some r := by rw [if_neg (show ¬ (false = true) by decide)] at H; exact H
     clear H
     have H := H1
     clear H1
     by_cases c57 : t636 = 0
     · rw [if_pos c57] at H
       have c57b0 : (t636 == 0) = true := beq_iff_eq.mpr c57
       have c57b1 : (t636 != 0) = false := bne_eq_false_iff_eq.mpr c57
       clear c57
       replace H := Option.bind_eq_some_iff.mp H
       obtain ⟨⟨t650, t651, t652, t655⟩, A580, H⟩ := H
       replace H : ((curve_Join.f a1_0 a1_1 l1_2 a2_0 a2_1 l2_2).bind fun bt657 => ((curve_Join.f a0_0 a0_1 l0_2 bt657.1 bt657.2.1 bt657.2.2.1).bind fun bt664 => (if t655 = 0 then (if bt657.2.2.2 = 0 then (if bt664.2.2.2 = 0 then ((kimberlitelaw03_alike.f kj7 t650 t651 t652 bt664.1 bt664.2.1 bt664.2.2.1).bind fun t671 => (kimberlitelaw03_CurveJoins.j1 kj7 a3 a4 (!t671) a0_0 a0_1 l0_2 a1_0 a1_1 l1_2 t631 t632 t633)) else (kimberlitelaw03_CurveJoins.j1 kj7 a3 a4 false a0_0 a0_1 l0_2 a1_0 a1_1 l1_2 t631 t632 t633)) else (kimberlitelaw03_CurveJoins.j1 kj7 a3 a4 false a0_0 a0_1 l0_2 a1_0 a1_1 l1_2 t631 t632 t633)) else (kimberlitelaw03_CurveJoins.j1 kj7 a3 a4 false a0_0 a0_1 l0_2 a1_0 a1_1 l1_2 t631 t632 t633)))) = some r := H
       have A58 := Aside0.mk A580
       clear A580
       replace H := Option.bind_eq_some_iff.mp H
       obtain ⟨⟨t657, t658, t659, t662⟩, A590, H⟩ := H
       replace H : ((curve_Join.f a0_0 a0_1 l0_2 t657 t658 t659).bind fun bt664 => (if t655 = 0 then (if t662 = 0 then (if bt664.2.2.2 = 0 then ((kimberlitelaw03_alike.f kj7 t650 t651 t652 bt664.1 bt664.2.1 bt664.2.2.1).bind fun t671 => (kimberlitelaw03_CurveJoins.j1 kj7 a3 a4 (!t671) a0_0 a0_1 l0_2 a1_0 a1_1 l1_2 t631 t632 t633)) else (kimberlitelaw03_CurveJoins.j1 kj7 a3 a4 false a0_0 a0_1 l0_2 a1_0 a1_1 l1_2 t631 t632 t633)) else (kimberlitelaw03_CurveJoins.j1 kj7 a3 a4 false a0_0 a0_1 l0_2 a1_0 a1_1 l1_2 t631 t632 t633)) else (kimberlitelaw03_CurveJoins.j1 kj7 a3 a4 false a0_0 a0_1 l0_2 a1_0 a1_1 l1_2 t631 t632 t633))) = some r := H
       have A59 := Aside0.mk A590
       clear A590
       replace H := Option.bind_eq_some_iff.mp H
       obtain ⟨⟨t664, t665, t666, t669⟩, A600, H⟩ := H
       replace H : (if t655 = 0 then (if t662 = 0 then (if t669 = 0 then ((kimberlitelaw03_alike.f kj7 t650 t651 t652 t664 t665 t666).bind fun t671 => (kimberlitelaw03_CurveJoins.j1 kj7 a3 a4 (!t671) a0_0 a0_1 l0_2 a1_0 a1_1 l1_2 t631 t632 t633)) else (kimberlitelaw03_CurveJoins.j1 kj7 a3 a4 false a0_0 a0_1 l0_2 a1_0 a1_1 l1_2 t631 t632 t633)) else (kimberlitelaw03_CurveJoins.j1 kj7 a3 a4 false a0_0 a0_1 l0_2 a1_0 a1_1 l1_2 t631 t632 t633)) else (kimberlitelaw03_CurveJoins.j1 kj7 a3 a4 false a0_0 a0_1 l0_2 a1_0 a1_1 l1_2 t631 t632 t633)) = some r := H
       have A60 := Aside0.mk A600
       clear A600
       have HC61 := Aside0.mk H
       clear H
       have hnb62 := NB637_628.out
       have hnc62 := NB628_637.out
       have hnb63 := NB637_629.out
       have hnc63 := NB629_637.out
       have hnb64 := NB637_630.out
       have hnc64 := NB630_637.out
       have hnb65 := NB637_644.out
       have hnc65 := NB644_637.out
       have hcz66_0 : wc.cell? ⟨gb637, 0, none⟩ = some (.int .i64 t631) := (blk_cell BK637.out 0).trans rfl
       have hcz66_1 : wc.cell? ⟨gb637, 1, none⟩ = some (.int .i64 t632) := (blk_cell BK637.out 1).trans rfl
       have hcz66_2 : wc.cell? ⟨gb637, 2, none⟩ = some (.slice Ao23 t633.length co23) := (blk_cell BK637.out 2).trans rfl
       have hfz66_0 := blk_frozen BK637.out 0
       have hfz66_1 := blk_frozen BK637.out 1
       have hfz66_2 := blk_frozen BK637.out 2
       have hnb67 := NB630_628.out
       have hnc67 := NB628_630.out
       have hnb68 := NB630_629.out
       have hnc68 := NB629_630.out
       have hnb69 := NB630_644.out
       have hnc69 := NB644_630.out
       have hcz70_0 : wc.cell? ⟨gb630, 0, none⟩ = some (.int .i64 a2_0) := (blk_cell BK630.out 0).trans rfl
       have hcz70_1 : wc.cell? ⟨gb630, 1, none⟩ = some (.int .i64 a2_1) := (blk_cell BK630.out 1).trans rfl
       have hcz70_2 : wc.cell? ⟨gb630, 2, none⟩ = some (.slice A2_2 l2_2.length c2_2) := (blk_cell BK630.out 2).trans rfl
       have hfz70_0 := blk_frozen BK630.out 0
       have hfz70_1 := blk_frozen BK630.out 1
       have hfz70_2 := blk_frozen BK630.out 2
       go_upto_region 10 with (first | ((with_reducible refine gate_callee (f := 14) rfl ?_); refine goesL_ (some 71) rfl rfl Try.func14 (by kernel_rfl) rfl #[.agg #[.int .i64 t631, .int .i64 t632, .slice Ao23 t633.length co23], .agg #[.int .i64 a2_0, .int .i64 a2_1, .slice A2_2 l2_2.length c2_2]] rfl (by (try simp only [List.map_toArray, List.map_cons, List.map_nil]); first | done | rfl | (simp only [List.length_drop, List.length_take]; rfl)) ?_; (with_reducible refine (curve_Join.calls t631 t632 _ _ t633 a2_0 a2_1 _ _ l2_2 t650 t651 t652 t655 _ ?side1 ?side2 ?side3 ?side4 A58.out).mono ?_); (case side1 => repeat (first | exact (Kd.R_reads' HO_638002.out).2.2 | (with_reducible refine Kd.C_alloc ?_ _) | (with_reducible refine Kd.C_drewN ?_ _) | (with_reducible refine Kd.C_drew ?_))); (case side2 => exact (Kd.R_reads' HO_638002.out).2.1); (case side3 => repeat (first | exact (Kd.C_below HR2_2.out HB.out) | (with_reducible refine Kd.C_alloc ?_ _) | (with_reducible refine Kd.C_drewN ?_ _) | (with_reducible refine Kd.C_drew ?_))); (case side4 => exact HC2_2.out); rintro e w71 ⟨v653, rfl, ho0, hb⟩; refine ⟨_, rfl, ?_⟩; have n0_ := Aside0.mk (Kd.R_elder' (nR HO_638002) (Kd.R_base ho0) hb); have n1_ := Aside0.mk (Kd.R_elder' (nR HO_645002) (Kd.R_base ho0) hb); have n2_ := Aside0.mk (Kd.R_lower (Kd.R_new' (Kd.R_new' ho0 (Kd.R_lt (nR HO_638002))) (Kd.R_lt (nR HO_645002))) (below_size (nC HB))); have n3_ := Aside0.mk (nB BK628 hb); have n4_ := Aside0.mk (nB BK629 hb); have n5_ := Aside0.mk (nB BK630 hb); have n6_ := Aside0.mk (nB BK637 hb); have n7_ := Aside0.mk (nB BK644 hb); have n8_ := Aside0.mk (below_step (nC HB) hb); clear HO_638002; clear HO_645002; clear BK628; clear BK629; clear BK630; clear BK637; clear BK644; clear HB; have HO_638002 := n0_; have HO_645002 := n1_; have HO654 := n2_; have BK628 := n3_; have BK629 := n4_; have BK630 := n5_; have BK637 := n6_; have BK644 := n7_; have HB := n8_; clear n0_ n1_ n2_ n3_ n4_ n5_ n6_ n7_ n8_; (try clear hb); (try clear hb2); (try clear hk); (try clear hi); (try clear ho0)) | ((with_reducible refine gate_dst (N := 15) rfl ?_); refine box_event ?hg (N := 15) ?hd (cs := #[.int .i64 0, .int .i64 0, .slice none 0 0]) (t := 24) ?hr ?_; (case hd => rfl); (case hg => rfl); (case hr => first | (go_simp; done) | (go_simp; rfl)); intro gb656 hg w72 hbox hb; have n0_ := Aside0.mk (Kd.R_below (nR HO_638002) hb); have n1_ := Aside0.mk (Kd.R_below (nR HO_645002) hb); have n2_ := Aside0.mk (Kd.R_below (nR HO654) hb); have n3_ := Aside0.mk (nB BK628 hb); have n4_ := Aside0.mk (nB BK629 hb); have n5_ := Aside0.mk (nB BK630 hb); have n6_ := Aside0.mk (nB BK637 hb); have n7_ := Aside0.mk (nB BK644 hb); have n8_ := Aside0.mk (below_step (nC HB) hb); have n9_ := Aside0.mk (hbox); have n10_ := Aside0.mk ((by rw [hg]; exact (below_size (nC HB)) : w.heap.size ≤ gb656)); have n11_ := Aside0.mk ((by rw [hg]; exact (below_size (nC HB)) : w.heap.size ≤ gb656)); have n12_ := Aside0.mk ((by rw [hg]; exact Nat.ne_of_lt (blk_lt (g := gb628) (o := .cells #[.int .i64 a0_0, .int .i64 a0_1, .slice A0_2 l0_2.length c0_2] 24 (0, 0)) (nK BK628)) : gb628 ≠ gb656)); have n13_ := Aside0.mk ((by rw [hg]; exact Nat.ne_of_gt (blk_lt (g := gb628) (o := .cells #[.int .i64 a0_0, .int .i64 a0_1, .slice A0_2 l0_2.length c0_2] 24 (0, 0)) (nK BK628)) : gb656 ≠ gb628)); have n14_ := Aside0.mk ((by rw [hg]; exact Nat.ne_of_lt (blk_lt (g := gb629) (o := .cells #[.int .i64 a1_0, .int .i64 a1_1, .slice A1_2 l1_2.length c1_2] 24 (0, 0)) (nK BK629)) : gb629 ≠ gb656)); have n15_ := Aside0.mk ((by rw [hg]; exact Nat.ne_of_gt (blk_lt (g := gb629) (o := .cells #[.int .i64 a1_0, .int .i64 a1_1, .slice A1_2 l1_2.length c1_2] 24 (0, 0)) (nK BK629)) : gb656 ≠ gb629)); have n16_ := Aside0.mk ((by rw [hg]; exact Nat.ne_of_lt (blk_lt (g := gb630) (o := .cells #[.int .i64 a2_0, .int .i64 a2_1, .slice A2_2 l2_2.length c2_2] 24 (0, 0)) (nK BK630)) : gb630 ≠ gb656)); have n17_ := Aside0.mk ((by rw [hg]; exact Nat.ne_of_gt (blk_lt (g := gb630) (o := .cells #[.int .i64 a2_0, .int .i64 a2_1, .slice A2_2 l2_2.length c2_2] 24 (0, 0)) (nK BK630)) : gb656 ≠ gb630)); have n18_ := Aside0.mk ((by rw [hg]; exact Nat.ne_of_lt (blk_lt (g := gb637) (o := .cells #[.int .i64 t631, .int .i64 t632, .slice Ao23 t633.length co23] 24 (0, 0)) (nK BK637)) : gb637 ≠ gb656)); have n19_ := Aside0.mk ((by rw [hg]; exact Nat.ne_of_gt (blk_lt (g := gb637) (o := .cells #[.int .i64 t631, .int .i64 t632, .slice Ao23 t633.length co23] 24 (0, 0)) (nK BK637)) : gb656 ≠ gb637)); have n20_ := Aside0.mk ((by rw [hg]; exact Nat.ne_of_lt (blk_lt (g := gb644) (o := .cells #[.int .i64 t638, .int .i64 t639, .slice Ao33 t640.length co33] 24 (0, 0)) (nK BK644)) : gb644 ≠ gb656)); have n21_ := Aside0.mk ((by rw [hg]; exact Nat.ne_of_gt (blk_lt (g := gb644) (o := .cells #[.int .i64 t638, .int .i64 t639, .slice Ao33 t640.length co33] 24 (0, 0)) (nK BK644)) : gb656 ≠ gb644)); clear HO_638002; clear HO_645002; clear HO654; clear BK628; clear BK629; clear BK630; clear BK637; clear BK644; clear HB; have HO_638002 := n0_; have HO_645002 := n1_; have HO654 := n2_; have BK628 := n3_; have BK629 := n4_; have BK630 := n5_; have BK637 := n6_; have BK644 := n7_; have HB := n8_; have BK656 := n9_; have GW656 := n10_; have GE656 := n11_; have NB628_656 := n12_; have NB656_628 := n13_; have NB629_656 := n14_; have NB656_629 := n15_; have NB630_656 := n16_; have NB656_630 := n17_; have NB637_656 := n18_; have NB656_637 := n19_; have NB644_656 := n20_; have NB656_644 := n21_; clear n0_ n1_ n2_ n3_ n4_ n5_ n6_ n7_ n8_ n9_ n10_ n11_ n12_ n13_ n14_ n15_ n16_ n17_ n18_ n19_ n20_ n21_; clear hb hbox hg; have hnb73 := NB656_628.out; have hnc73 := NB628_656.out; have hnb74 := NB656_629.out; have hnc74 := NB629_656.out; have hnb75 := NB656_630.out; have hnc75 := NB630_656.out; have hnb76 := NB656_637.out; have hnc76 := NB637_656.out; have hnb77 := NB656_644.out; have hnc77 := NB644_656.out; have hcz78_0 : w72.cell? ⟨gb656, 0, none⟩ = some (.int .i64 0) := (blk_cell BK656.out 0).trans rfl; have hcz78_1 : w72.cell? ⟨gb656, 1, none⟩ = some (.int .i64 0) := (blk_cell BK656.out 1).trans rfl; have hcz78_2 : w72.cell? ⟨gb656, 2, none⟩ = some (.slice none 0 0) := (blk_cell BK656.out 2).trans rfl; have hfz78_0 := blk_frozen BK656.out 0; have hfz78_1 := blk_frozen BK656.out 1; have hfz78_2 := blk_frozen BK656.out 2; obtain ⟨Ao79, co79, eo79⟩ := Kd.R_slice HO654.out; subst eo79; have hnb80 := NB629_628.out; have hnc80 := NB628_629.out; have hnb81 := NB629_644.out; have hnc81 := NB644_629.out; have hcz82_0 : w72.cell? ⟨gb629, 0, none⟩ = some (.int .i64 a1_0) := (blk_cell BK629.out 0).trans rfl; have hcz82_1 : w72.cell? ⟨gb629, 1, none⟩ = some (.int .i64 a1_1) := (blk_cell BK629.out 1).trans rfl; have hcz82_2 : w72.cell? ⟨gb629, 2, none⟩ = some (.slice A1_2 l1_2.length c1_2) := (blk_cell BK629.out 2).trans rfl; have hfz82_0 := blk_frozen BK629.out 0; have hfz82_1 := blk_frozen BK629.out 1; have hfz82_2 := blk_frozen BK629.out 2; have hcz83_0 : w72.cell? ⟨gb630, 0, none⟩ = some (.int .i64 a2_0) := (blk_cell BK630.out 0).trans rfl; have hcz83_1 : w72.cell? ⟨gb630, 1, none⟩ = some (.int .i64 a2_1) := (blk_cell BK630.out 1).trans rfl; have hcz83_2 : w72.cell? ⟨gb630, 2, none⟩ = some (.slice A2_2 l2_2.length c2_2) := (blk_cell BK630.out 2).trans rfl; have hfz83_0 := blk_frozen BK630.out 0; have hfz83_1 := blk_frozen BK630.out 1; have hfz83_2 := blk_frozen BK630.out 2) | ((with_reducible refine gate_callee (f := 14) rfl ?_); refine goesL_ (some 77) rfl rfl Try.func14 (by kernel_rfl) rfl #[.agg #[.int .i64 a1_0, .int .i64 a1_1, .slice A1_2 l1_2.length c1_2], .agg #[.int .i64 a2_0, .int .i64 a2_1, .slice A2_2 l2_2.length c2_2]] rfl (by (try simp only [List.map_toArray, List.map_cons, List.map_nil]); first | done | rfl | (simp only [List.length_drop, List.length_take]; rfl)) ?_; (with_reducible refine (curve_Join.calls a1_0 a1_1 _ _ l1_2 a2_0 a2_1 _ _ l2_2 t657 t658 t659 t662 _ ?side1 ?side2 ?side3 ?side4 A59.out).mono ?_); (case side1 => exact Kd.C_below HR1_2.out (nC HB)); (case side2 => exact HC1_2.out); (case side3 => exact Kd.C_below HR2_2.out (nC HB)); (case side4 => exact HC2_2.out); rintro e w84 ⟨v660, rfl, ho0, hb⟩; refine ⟨_, rfl, ?_⟩; have n0_ := Aside0.mk (Kd.R_elder' (by (with_reducible repeat (first | apply Kd.R_alloc | apply Kd.R_drewN | apply Kd.R_drew)); exact (Kd.R_mono (Kd.R_far (p := ⟨gb656, 2, none⟩) (Kd.R_far (p := ⟨gb656, 1, none⟩) (Kd.R_far (p := ⟨gb656, 0, none⟩) (Kd.R_types HO_638002.out BK656.out (by decide)) (fun _ hk => hk.2) (.int .i64 t650)) (fun _ hk => hk.2) (.int .i64 t651)) (fun _ hk => hk.2) (.slice Ao79 t652.length co79)) (fun _ h_ => h_.1))) (Kd.R_base ho0) hb); have n1_ := Aside0.mk (Kd.R_elder' (by (with_reducible repeat (first | apply Kd.R_alloc | apply Kd.R_drewN | apply Kd.R_drew)); exact (Kd.R_mono (Kd.R_far (p := ⟨gb656, 2, none⟩) (Kd.R_far (p := ⟨gb656, 1, none⟩) (Kd.R_far (p := ⟨gb656, 0, none⟩) (Kd.R_types HO_645002.out BK656.out (by decide)) (fun _ hk => hk.2) (.int .i64 t650)) (fun _ hk => hk.2) (.int .i64 t651)) (fun _ hk => hk.2) (.slice Ao79 t652.length co79)) (fun _ h_ => h_.1))) (Kd.R_base ho0) hb); have n2_ := Aside0.mk (Kd.R_elder' (by (with_reducible repeat (first | apply Kd.R_alloc | apply Kd.R_drewN | apply Kd.R_drew)); exact (Kd.R_mono (Kd.R_far (p := ⟨gb656, 2, none⟩) (Kd.R_far (p := ⟨gb656, 1, none⟩) (Kd.R_far (p := ⟨gb656, 0, none⟩) (Kd.R_types HO654.out BK656.out (by decide)) (fun _ hk => hk.2) (.int .i64 t650)) (fun _ hk => hk.2) (.int .i64 t651)) (fun _ hk => hk.2) (.slice Ao79 t652.length co79)) (fun _ h_ => h_.1))) (Kd.R_base ho0) hb); have n3_ := Aside0.mk (Kd.R_lower (Kd.R_new' (Kd.R_new' (Kd.R_new' ho0 (Kd.R_lt (by (with_reducible repeat (first | apply Kd.R_alloc | apply Kd.R_drewN | apply Kd.R_drew)); exact (Kd.R_mono (Kd.R_far (p := ⟨gb656, 2, none⟩) (Kd.R_far (p := ⟨gb656, 1, none⟩) (Kd.R_far (p := ⟨gb656, 0, none⟩) (Kd.R_types HO_638002.out BK656.out (by decide)) (fun _ hk => hk.2) (.int .i64 t650)) (fun _ hk => hk.2) (.int .i64 t651)) (fun _ hk => hk.2) (.slice Ao79 t652.length co79)) (fun _ h_ => h_.1))))) (Kd.R_lt (by (with_reducible repeat (first | apply Kd.R_alloc | apply Kd.R_drewN | apply Kd.R_drew)); exact (Kd.R_mono (Kd.R_far (p := ⟨gb656, 2, none⟩) (Kd.R_far (p := ⟨gb656, 1, none⟩) (Kd.R_far (p := ⟨gb656, 0, none⟩) (Kd.R_types HO_645002.out BK656.out (by decide)) (fun _ hk => hk.2) (.int .i64 t650)) (fun _ hk => hk.2) (.int .i64 t651)) (fun _ hk => hk.2) (.slice Ao79 t652.length co79)) (fun _ h_ => h_.1))))) (Kd.R_lt (by (with_reducible repeat (first | apply Kd.R_alloc | apply Kd.R_drewN | apply Kd.R_drew)); exact (Kd.R_mono (Kd.R_far (p := ⟨gb656, 2, none⟩) (Kd.R_far (p := ⟨gb656, 1, none⟩) (Kd.R_far (p := ⟨gb656, 0, none⟩) (Kd.R_types HO654.out BK656.out (by decide)) (fun _ hk => hk.2) (.int .i64 t650)) (fun _ hk => hk.2) (.int .i64 t651)) (fun _ hk => hk.2) (.slice Ao79 t652.length co79)) (fun _ h_ => h_.1))))) (below_size (nC HB))); have n4_ := Aside0.mk (blk_below (g := gb628) (o := .cells #[.int .i64 a0_0, .int .i64 a0_1, .slice A0_2 l0_2.length c0_2] 24 (0, 0)) (by (with_reducible repeat (first | refine blk_drewN ?_ _ | refine blk_drew ?_ | refine blk_alloc ?_ _)); refine blk_far ?_ NB628_656.out _; (with_reducible repeat (first | refine blk_drewN ?_ _ | refine blk_drew ?_ | refine blk_alloc ?_ _)); refine blk_far ?_ NB628_656.out _; (with_reducible repeat (first | refine blk_drewN ?_ _ | refine blk_drew ?_ | refine blk_alloc ?_ _)); refine blk_far ?_ NB628_656.out _; (with_reducible repeat (first | refine blk_drewN ?_ _ | refine blk_drew ?_ | refine blk_alloc ?_ _)); exact BK628.out) hb); have n5_ := Aside0.mk (blk_below (g := gb629) (o := .cells #[.int .i64 a1_0, .int .i64 a1_1, .slice A1_2 l1_2.length c1_2] 24 (0, 0)) (by (with_reducible repeat (first | refine blk_drewN ?_ _ | refine blk_drew ?_ | refine blk_alloc ?_ _)); refine blk_far ?_ NB629_656.out _; (with_reducible repeat (first | refine blk_drewN ?_ _ | refine blk_drew ?_ | refine blk_alloc ?_ _)); refine blk_far ?_ NB629_656.out _; (with_reducible repeat (first | refine blk_drewN ?_ _ | refine blk_drew ?_ | refine blk_alloc ?_ _)); refine blk_far ?_ NB629_656.out _; (with_reducible repeat (first | refine blk_drewN ?_ _ | refine blk_drew ?_ | refine blk_alloc ?_ _)); exact BK629.out) hb); have n6_ := Aside0.mk (blk_below (g := gb630) (o := .cells #[.int .i64 a2_0, .int .i64 a2_1, .slice A2_2 l2_2.length c2_2] 24 (0, 0)) (by (with_reducible repeat (first | refine blk_drewN ?_ _ | refine blk_drew ?_ | refine blk_alloc ?_ _)); refine blk_far ?_ NB630_656.out _; (with_reducible repeat (first | refine blk_drewN ?_ _ | refine blk_drew ?_ | refine blk_alloc ?_ _)); refine blk_far ?_ NB630_656.out _; (with_reducible repeat (first | refine blk_drewN ?_ _ | refine blk_drew ?_ | refine blk_alloc ?_ _)); refine blk_far ?_ NB630_656.out _; (with_reducible repeat (first | refine blk_drewN ?_ _ | refine blk_drew ?_ | refine blk_alloc ?_ _)); exact BK630.out) hb); have n7_ := Aside0.mk (blk_below (g := gb637) (o := .cells #[.int .i64 t631, .int .i64 t632, .slice Ao23 t633.length co23] 24 (0, 0)) (by (with_reducible repeat (first | refine blk_drewN ?_ _ | refine blk_drew ?_ | refine blk_alloc ?_ _)); refine blk_far ?_ NB637_656.out _; (with_reducible repeat (first | refine blk_drewN ?_ _ | refine blk_drew ?_ | refine blk_alloc ?_ _)); refine blk_far ?_ NB637_656.out _; (with_reducible repeat (first | refine blk_drewN ?_ _ | refine blk_drew ?_ | refine blk_alloc ?_ _)); refine blk_far ?_ NB637_656.out _; (with_reducible repeat (first | refine blk_drewN ?_ _ | refine blk_drew ?_ | refine blk_alloc ?_ _)); exact BK637.out) hb); have n8_ := Aside0.mk (blk_below (g := gb644) (o := .cells #[.int .i64 t638, .int .i64 t639, .slice Ao33 t640.length co33] 24 (0, 0)) (by (with_reducible repeat (first | refine blk_drewN ?_ _ | refine blk_drew ?_ | refine blk_alloc ?_ _)); refine blk_far ?_ NB644_656.out _; (with_reducible repeat (first | refine blk_drewN ?_ _ | refine blk_drew ?_ | refine blk_alloc ?_ _)); refine blk_far ?_ NB644_656.out _; (with_reducible repeat (first | refine blk_drewN ?_ _ | refine blk_drew ?_ | refine blk_alloc ?_ _)); refine blk_far ?_ NB644_656.out _; (with_reducible repeat (first | refine blk_drewN ?_ _ | refine blk_drew ?_ | refine blk_alloc ?_ _)); exact BK644.out) hb); have n9_ := Aside0.mk (blk_below (g := gb656) (o := .cells #[.int .i64 t650, .int .i64 t651, .slice Ao79 t652.length co79] 24 (0, 0)) (by (with_reducible repeat (first | refine blk_drewN ?_ _ | refine blk_drew ?_ | refine blk_alloc ?_ _)); refine blk_put (cs := #[.int .i64 t650, .int .i64 t651, .slice none 0 0]) ?_ 2 _ rfl; (with_reducible repeat (first | refine blk_drewN ?_ _ | refine blk_drew ?_ | refine blk_alloc ?_ _)); refine blk_put (cs := #[.int .i64 t650, .int .i64 0, .slice none 0 0]) ?_ 1 _ rfl; (with_reducible repeat (first | refine blk_drewN ?_ _ | refine blk_drew ?_ | refine blk_alloc ?_ _)); refine blk_put (cs := #[.int .i64 0, .int .i64 0, .slice none 0 0]) ?_ 0 _ rfl; (with_reducible repeat (first | refine blk_drewN ?_ _ | refine blk_drew ?_ | refine blk_alloc ?_ _)); exact BK656.out) hb); have n10_ := Aside0.mk (below_step (nC HB) hb); clear HO_638002; clear HO_645002; clear HO654; clear BK628; clear BK629; clear BK630; clear BK637; clear BK644; clear BK656; clear HB; have HO_638002 := n0_; have HO_645002 := n1_; have HO654 := n2_; have HO661 := n3_; have BK628 := n4_; have BK629 := n5_; have BK630 := n6_; have BK637 := n7_; have BK644 := n8_; have BK656 := n9_; have HB := n10_; clear n0_ n1_ n2_ n3_ n4_ n5_ n6_ n7_ n8_ n9_ n10_; (try clear hb); (try clear hb2); (try clear hk); (try clear hi); (try clear ho0)) | ((with_reducible refine gate_dst (N := 16) rfl ?_); refine box_event ?hg (N := 16) ?hd (cs := #[.int .i64 0, .int .i64 0, .slice none 0 0]) (t := 24) ?hr ?_; (case hd => rfl); (case hg => rfl); (case hr => first | (go_simp; done) | (go_simp; rfl)); intro gb663 hg w85 hbox hb; have n0_ := Aside0.mk (Kd.R_below (nR HO_638002) hb); have n1_ := Aside0.mk (Kd.R_below (nR HO_645002) hb); have n2_ := Aside0.mk (Kd.R_below (nR HO654) hb); have n3_ := Aside0.mk (Kd.R_below (nR HO661) hb); have n4_ := Aside0.mk (nB BK628 hb); have n5_ := Aside0.mk (nB BK629 hb); have n6_ := Aside0.mk (nB BK630 hb); have n7_ := Aside0.mk (nB BK637 hb); have n8_ := Aside0.mk (nB BK644 hb); have n9_ := Aside0.mk (nB BK656 hb); have n10_ := Aside0.mk (below_step (nC HB) hb); have n11_ := Aside0.mk (hbox); have n12_ := Aside0.mk ((by rw [hg]; exact (below_size (nC HB)) : w.heap.size ≤ gb663)); have n13_ := Aside0.mk ((by rw [hg]; exact (below_size (nC HB)) : w.heap.size ≤ gb663)); have n14_ := Aside0.mk ((by rw [hg]; exact Nat.ne_of_lt (blk_lt (g := gb628) (o := .cells #[.int .i64 a0_0, .int .i64 a0_1, .slice A0_2 l0_2.length c0_2] 24 (0, 0)) (nK BK628)) : gb628 ≠ gb663)); have n15_ := Aside0.mk ((by rw [hg]; exact Nat.ne_of_gt (blk_lt (g := gb628) (o := .cells #[.int .i64 a0_0, .int .i64 a0_1, .slice A0_2 l0_2.length c0_2] 24 (0, 0)) (nK BK628)) : gb663 ≠ gb628)); have n16_ := Aside0.mk ((by rw [hg]; exact Nat.ne_of_lt (blk_lt (g := gb629) (o := .cells #[.int .i64 a1_0, .int .i64 a1_1, .slice A1_2 l1_2.length c1_2] 24 (0, 0)) (nK BK629)) : gb629 ≠ gb663)); have n17_ := Aside0.mk ((by rw [hg]; exact Nat.ne_of_gt (blk_lt (g := gb629) (o := .cells #[.int .i64 a1_0, .int .i64 a1_1, .slice A1_2 l1_2.length c1_2] 24 (0, 0)) (nK BK629)) : gb663 ≠ gb629)); have n18_ := Aside0.mk ((by rw [hg]; exact Nat.ne_of_lt (blk_lt (g := gb630) (o := .cells #[.int .i64 a2_0, .int .i64 a2_1, .slice A2_2 l2_2.length c2_2] 24 (0, 0)) (nK BK630)) : gb630 ≠ gb663)); have n19_ := Aside0.mk ((by rw [hg]; exact Nat.ne_of_gt (blk_lt (g := gb630) (o := .cells #[.int .i64 a2_0, .int .i64 a2_1, .slice A2_2 l2_2.length c2_2] 24 (0, 0)) (nK BK630)) : gb663 ≠ gb630)); have n20_ := Aside0.mk ((by rw [hg]; exact Nat.ne_of_lt (blk_lt (g := gb637) (o := .cells #[.int .i64 t631, .int .i64 t632, .slice Ao23 t633.length co23] 24 (0, 0)) (nK BK637)) : gb637 ≠ gb663)); have n21_ := Aside0.mk ((by rw [hg]; exact Nat.ne_of_gt (blk_lt (g := gb637) (o := .cells #[.int .i64 t631, .int .i64 t632, .slice Ao23 t633.length co23] 24 (0, 0)) (nK BK637)) : gb663 ≠ gb637)); have n22_ := Aside0.mk ((by rw [hg]; exact Nat.ne_of_lt (blk_lt (g := gb644) (o := .cells #[.int .i64 t638, .int .i64 t639, .slice Ao33 t640.length co33] 24 (0, 0)) (nK BK644)) : gb644 ≠ gb663)); have n23_ := Aside0.mk ((by rw [hg]; exact Nat.ne_of_gt (blk_lt (g := gb644) (o := .cells #[.int .i64 t638, .int .i64 t639, .slice Ao33 t640.length co33] 24 (0, 0)) (nK BK644)) : gb663 ≠ gb644)); have n24_ := Aside0.mk ((by rw [hg]; exact Nat.ne_of_lt (blk_lt (g := gb656) (o := .cells #[.int .i64 t650, .int .i64 t651, .slice Ao79 t652.length co79] 24 (0, 0)) (nK BK656)) : gb656 ≠ gb663)); have n25_ := Aside0.mk ((by rw [hg]; exact Nat.ne_of_gt (blk_lt (g := gb656) (o := .cells #[.int .i64 t650, .int .i64 t651, .slice Ao79 t652.length co79] 24 (0, 0)) (nK BK656)) : gb663 ≠ gb656)); clear HO_638002; clear HO_645002; clear HO654; clear HO661; clear BK628; clear BK629; clear BK630; clear BK637; clear BK644; clear BK656; clear HB; have HO_638002 := n0_; have HO_645002 := n1_; have HO654 := n2_; have HO661 := n3_; have BK628 := n4_; have BK629 := n5_; have BK630 := n6_; have BK637 := n7_; have BK644 := n8_; have BK656 := n9_; have HB := n10_; have BK663 := n11_; have GW663 := n12_; have GE663 := n13_; have NB628_663 := n14_; have NB663_628 := n15_; have NB629_663 := n16_; have NB663_629 := n17_; have NB630_663 := n18_; have NB663_630 := n19_; have NB637_663 := n20_; have NB663_637 := n21_; have NB644_663 := n22_; have NB663_644 := n23_; have NB656_663 := n24_; have NB663_656 := n25_; clear n0_ n1_ n2_ n3_ n4_ n5_ n6_ n7_ n8_ n9_ n10_ n11_ n12_ n13_ n14_ n15_ n16_ n17_ n18_ n19_ n20_ n21_ n22_ n23_ n24_ n25_; clear hb hbox hg; have hnb86 := NB663_628.out; have hnc86 := NB628_663.out; have hnb87 := NB663_629.out; have hnc87 := NB629_663.out; have hnb88 := NB663_630.out; have hnc88 := NB630_663.out; have hnb89 := NB663_637.out; have hnc89 := NB637_663.out; have hnb90 := NB663_644.out; have hnc90 := NB644_663.out; have hnb91 := NB663_656.out; have hnc91 := NB656_663.out; have hcz92_0 : w85.cell? ⟨gb663, 0, none⟩ = some (.int .i64 0) := (blk_cell BK663.out 0).trans rfl; have hcz92_1 : w85.cell? ⟨gb663, 1, none⟩ = some (.int .i64 0) := (blk_cell BK663.out 1).trans rfl; have hcz92_2 : w85.cell? ⟨gb663, 2, none⟩ = some (.slice none 0 0) := (blk_cell BK663.out 2).trans rfl; have hfz92_0 := blk_frozen BK663.out 0; have hfz92_1 := blk_frozen BK663.out 1; have hfz92_2 := blk_frozen BK663.out 2; obtain ⟨Ao93, co93, eo93⟩ := Kd.R_slice HO661.out; subst eo93; have hnb94 := NB628_644.out; have hnc94 := NB644_628.out; have hcz95_0 : w85.cell? ⟨gb628, 0, none⟩ = some (.int .i64 a0_0) := (blk_cell BK628.out 0).trans rfl; have hcz95_1 : w85.cell? ⟨gb628, 1, none⟩ = some (.int .i64 a0_1) := (blk_cell BK628.out 1).trans rfl; have hcz95_2 : w85.cell? ⟨gb628, 2, none⟩ = some (.slice A0_2 l0_2.length c0_2) := (blk_cell BK628.out 2).trans rfl; have hfz95_0 := blk_frozen BK628.out 0; have hfz95_1 := blk_frozen BK628.out 1; have hfz95_2 := blk_frozen BK628.out 2) | ((with_reducible refine gate_callee (f := 14) rfl ?_); refine goesL_ (some 83) rfl rfl Try.func14 (by kernel_rfl) rfl #[.agg #[.int .i64 a0_0, .int .i64 a0_1, .slice A0_2 l0_2.length c0_2], .agg #[.int .i64 t657, .int .i64 t658, .slice Ao93 t659.length co93]] rfl (by (try simp only [List.map_toArray, List.map_cons, List.map_nil]); first | done | rfl | (simp only [List.length_drop, List.length_take]; rfl)) ?_; (with_reducible refine (curve_Join.calls a0_0 a0_1 _ _ l0_2 t657 t658 _ _ t659 t664 t665 t666 t669 _ ?side1 ?side2 ?side3 ?side4 A60.out).mono ?_); (case side1 => exact Kd.C_below HR0_2.out (nC HB)); (case side2 => exact HC0_2.out); (case side3 => refine (Kd.R_reads' (e := 3) (base := w.heap.size) (ok := fun k_ => (((True ∧ some k_ ≠ (.slice Ao23 t633.length co23 : Value).ownBlock) ∧ some k_ ≠ (.slice Ao33 t640.length co33 : Value).ownBlock) ∧ some k_ ≠ (.slice Ao79 t652.length co79 : Value).ownBlock)) (n := t659.length) (c := co93) ?_).2.2; exact (by (with_reducible repeat (first | apply Kd.R_alloc | apply Kd.R_drewN | apply Kd.R_drew)); exact (Kd.R_mono (Kd.R_far (p := ⟨gb663, 2, none⟩) (Kd.R_far (p := ⟨gb663, 1, none⟩) (Kd.R_far (p := ⟨gb663, 0, none⟩) (Kd.R_types HO661.out BK663.out (by decide)) (fun _ hk => hk.2) (.int .i64 t657)) (fun _ hk => hk.2) (.int .i64 t658)) (fun _ hk => hk.2) (.slice Ao93 t659.length co93)) (fun _ h_ => h_.1)))); (case side4 => exact (Kd.R_reads' HO661.out).2.1); rintro e w96 ⟨v667, rfl, ho0, hb⟩; refine ⟨_, rfl, ?_⟩; have n0_ := Aside0.mk (Kd.R_elder' (by (with_reducible repeat (first | apply Kd.R_alloc | apply Kd.R_drewN | apply Kd.R_drew)); exact (Kd.R_mono (Kd.R_far (p := ⟨gb663, 2, none⟩) (Kd.R_far (p := ⟨gb663, 1, none⟩) (Kd.R_far (p := ⟨gb663, 0, none⟩) (Kd.R_types HO_638002.out BK663.out (by decide)) (fun _ hk => hk.2) (.int .i64 t657)) (fun _ hk => hk.2) (.int .i64 t658)) (fun _ hk => hk.2) (.slice Ao93 t659.length co93)) (fun _ h_ => h_.1))) (Kd.R_base ho0) hb); have n1_ := Aside0.mk (Kd.R_elder' (by (with_reducible repeat (first | apply Kd.R_alloc | apply Kd.R_drewN | apply Kd.R_drew)); exact (Kd.R_mono (Kd.R_far (p := ⟨gb663, 2, none⟩) (Kd.R_far (p := ⟨gb663, 1, none⟩) (Kd.R_far (p := ⟨gb663, 0, none⟩) (Kd.R_types HO_645002.out BK663.out (by decide)) (fun _ hk => hk.2) (.int .i64 t657)) (fun _ hk => hk.2) (.int .i64 t658)) (fun _ hk => hk.2) (.slice Ao93 t659.length co93)) (fun _ h_ => h_.1))) (Kd.R_base ho0) hb); have n2_ := Aside0.mk (Kd.R_elder' (by (with_reducible repeat (first | apply Kd.R_alloc | apply Kd.R_drewN | apply Kd.R_drew)); exact (Kd.R_mono (Kd.R_far (p := ⟨gb663, 2, none⟩) (Kd.R_far (p := ⟨gb663, 1, none⟩) (Kd.R_far (p := ⟨gb663, 0, none⟩) (Kd.R_types HO654.out BK663.out (by decide)) (fun _ hk => hk.2) (.int .i64 t657)) (fun _ hk => hk.2) (.int .i64 t658)) (fun _ hk => hk.2) (.slice Ao93 t659.length co93)) (fun _ h_ => h_.1))) (Kd.R_base ho0) hb); have n3_ := Aside0.mk (Kd.R_elder' (by (with_reducible repeat (first | apply Kd.R_alloc | apply Kd.R_drewN | apply Kd.R_drew)); exact (Kd.R_mono (Kd.R_far (p := ⟨gb663, 2, none⟩) (Kd.R_far (p := ⟨gb663, 1, none⟩) (Kd.R_far (p := ⟨gb663, 0, none⟩) (Kd.R_types HO661.out BK663.out (by decide)) (fun _ hk => hk.2) (.int .i64 t657)) (fun _ hk => hk.2) (.int .i64 t658)) (fun _ hk => hk.2) (.slice Ao93 t659.length co93)) (fun _ h_ => h_.1))) (Kd.R_base ho0) hb); have n4_ := Aside0.mk (Kd.R_lower (Kd.R_new' (Kd.R_new' (Kd.R_new' (Kd.R_new' ho0 (Kd.R_lt (by (with_reducible repeat (first | apply Kd.R_alloc | apply Kd.R_drewN | apply Kd.R_drew)); exact (Kd.R_mono (Kd.R_far (p := ⟨gb663, 2, none⟩) (Kd.R_far (p := ⟨gb663, 1, none⟩) (Kd.R_far (p := ⟨gb663, 0, none⟩) (Kd.R_types HO_638002.out BK663.out (by decide)) (fun _ hk => hk.2) (.int .i64 t657)) (fun _ hk => hk.2) (.int .i64 t658)) (fun _ hk => hk.2) (.slice Ao93 t659.length co93)) (fun _ h_ => h_.1))))) (Kd.R_lt (by (with_reducible repeat (first | apply Kd.R_alloc | apply Kd.R_drewN | apply Kd.R_drew)); exact (Kd.R_mono (Kd.R_far (p := ⟨gb663, 2, none⟩) (Kd.R_far (p := ⟨gb663, 1, none⟩) (Kd.R_far (p := ⟨gb663, 0, none⟩) (Kd.R_types HO_645002.out BK663.out (by decide)) (fun _ hk => hk.2) (.int .i64 t657)) (fun _ hk => hk.2) (.int .i64 t658)) (fun _ hk => hk.2) (.slice Ao93 t659.length co93)) (fun _ h_ => h_.1))))) (Kd.R_lt (by (with_reducible repeat (first | apply Kd.R_alloc | apply Kd.R_drewN | apply Kd.R_drew)); exact (Kd.R_mono (Kd.R_far (p := ⟨gb663, 2, none⟩) (Kd.R_far (p := ⟨gb663, 1, none⟩) (Kd.R_far (p := ⟨gb663, 0, none⟩) (Kd.R_types HO654.out BK663.out (by decide)) (fun _ hk => hk.2) (.int .i64 t657)) (fun _ hk => hk.2) (.int .i64 t658)) (fun _ hk => hk.2) (.slice Ao93 t659.length co93)) (fun _ h_ => h_.1))))) (Kd.R_lt (by (with_reducible repeat (first | apply Kd.R_alloc | apply Kd.R_drewN | apply Kd.R_drew)); exact (Kd.R_mono (Kd.R_far (p := ⟨gb663, 2, none⟩) (Kd.R_far (p := ⟨gb663, 1, none⟩) (Kd.R_far (p := ⟨gb663, 0, none⟩) (Kd.R_types HO661.out BK663.out (by decide)) (fun _ hk => hk.2) (.int .i64 t657)) (fun _ hk => hk.2) (.int .i64 t658)) (fun _ hk => hk.2) (.slice Ao93 t659.length co93)) (fun _ h_ => h_.1))))) (below_size (nC HB))); have n5_ := Aside0.mk (blk_below (g := gb628) (o := .cells #[.int .i64 a0_0, .int .i64 a0_1, .slice A0_2 l0_2.length c0_2] 24 (0, 0)) (by (with_reducible repeat (first | refine blk_drewN ?_ _ | refine blk_drew ?_ | refine blk_alloc ?_ _)); refine blk_far ?_ NB628_663.out _; (with_reducible repeat (first | refine blk_drewN ?_ _ | refine blk_drew ?_ | refine blk_alloc ?_ _)); refine blk_far ?_ NB628_663.out _; (with_reducible repeat (first | refine blk_drewN ?_ _ | refine blk_drew ?_ | refine blk_alloc ?_ _)); refine blk_far ?_ NB628_663.out _; (with_reducible repeat (first | refine blk_drewN ?_ _ | refine blk_drew ?_ | refine blk_alloc ?_ _)); exact BK628.out) hb); have n6_ := Aside0.mk (blk_below (g := gb629) (o := .cells #[.int .i64 a1_0, .int .i64 a1_1, .slice A1_2 l1_2.length c1_2] 24 (0, 0)) (by (with_reducible repeat (first | refine blk_drewN ?_ _ | refine blk_drew ?_ | refine blk_alloc ?_ _)); refine blk_far ?_ NB629_663.out _; (with_reducible repeat (first | refine blk_drewN ?_ _ | refine blk_drew ?_ | refine blk_alloc ?_ _)); refine blk_far ?_ NB629_663.out _; (with_reducible repeat (first | refine blk_drewN ?_ _ | refine blk_drew ?_ | refine blk_alloc ?_ _)); refine blk_far ?_ NB629_663.out _; (with_reducible repeat (first | refine blk_drewN ?_ _ | refine blk_drew ?_ | refine blk_alloc ?_ _)); exact BK629.out) hb); have n7_ := Aside0.mk (blk_below (g := gb630) (o := .cells #[.int .i64 a2_0, .int .i64 a2_1, .slice A2_2 l2_2.length c2_2] 24 (0, 0)) (by (with_reducible repeat (first | refine blk_drewN ?_ _ | refine blk_drew ?_ | refine blk_alloc ?_ _)); refine blk_far ?_ NB630_663.out _; (with_reducible repeat (first | refine blk_drewN ?_ _ | refine blk_drew ?_ | refine blk_alloc ?_ _)); refine blk_far ?_ NB630_663.out _; (with_reducible repeat (first | refine blk_drewN ?_ _ | refine blk_drew ?_ | refine blk_alloc ?_ _)); refine blk_far ?_ NB630_663.out _; (with_reducible repeat (first | refine blk_drewN ?_ _ | refine blk_drew ?_ | refine blk_alloc ?_ _)); exact BK630.out) hb); have n8_ := Aside0.mk (blk_below (g := gb637) (o := .cells #[.int .i64 t631, .int .i64 t632, .slice Ao23 t633.length co23] 24 (0, 0)) (by (with_reducible repeat (first | refine blk_drewN ?_ _ | refine blk_drew ?_ | refine blk_alloc ?_ _)); refine blk_far ?_ NB637_663.out _; (with_reducible repeat (first | refine blk_drewN ?_ _ | refine blk_drew ?_ | refine blk_alloc ?_ _)); refine blk_far ?_ NB637_663.out _; (with_reducible repeat (first | refine blk_drewN ?_ _ | refine blk_drew ?_ | refine blk_alloc ?_ _)); refine blk_far ?_ NB637_663.out _; (with_reducible repeat (first | refine blk_drewN ?_ _ | refine blk_drew ?_ | refine blk_alloc ?_ _)); exact BK637.out) hb); have n9_ := Aside0.mk (blk_below (g := gb644) (o := .cells #[.int .i64 t638, .int .i64 t639, .slice Ao33 t640.length co33] 24 (0, 0)) (by (with_reducible repeat (first | refine blk_drewN ?_ _ | refine blk_drew ?_ | refine blk_alloc ?_ _)); refine blk_far ?_ NB644_663.out _; (with_reducible repeat (first | refine blk_drewN ?_ _ | refine blk_drew ?_ | refine blk_alloc ?_ _)); refine blk_far ?_ NB644_663.out _; (with_reducible repeat (first | refine blk_drewN ?_ _ | refine blk_drew ?_ | refine blk_alloc ?_ _)); refine blk_far ?_ NB644_663.out _; (with_reducible repeat (first | refine blk_drewN ?_ _ | refine blk_drew ?_ | refine blk_alloc ?_ _)); exact BK644.out) hb); have n10_ := Aside0.mk (blk_below (g := gb656) (o := .cells #[.int .i64 t650, .int .i64 t651, .slice Ao79 t652.length co79] 24 (0, 0)) (by (with_reducible repeat (first | refine blk_drewN ?_ _ | refine blk_drew ?_ | refine blk_alloc ?_ _)); refine blk_far ?_ NB656_663.out _; (with_reducible repeat (first | refine blk_drewN ?_ _ | refine blk_drew ?_ | refine blk_alloc ?_ _)); refine blk_far ?_ NB656_663.out _; (with_reducible repeat (first | refine blk_drewN ?_ _ | refine blk_drew ?_ | refine blk_alloc ?_ _)); refine blk_far ?_ NB656_663.out _; (with_reducible repeat (first | refine blk_drewN ?_ _ | refine blk_drew ?_ | refine blk_alloc ?_ _)); exact BK656.out) hb); have n11_ := Aside0.mk (blk_below (g := gb663) (o := .cells #[.int .i64 t657, .int .i64 t658, .slice Ao93 t659.length co93] 24 (0, 0)) (by (with_reducible repeat (first | refine blk_drewN ?_ _ | refine blk_drew ?_ | refine blk_alloc ?_ _)); refine blk_put (cs := #[.int .i64 t657, .int .i64 t658, .slice none 0 0]) ?_ 2 _ rfl; (with_reducible repeat (first | refine blk_drewN ?_ _ | refine blk_drew ?_ | refine blk_alloc ?_ _)); refine blk_put (cs := #[.int .i64 t657, .int .i64 0, .slice none 0 0]) ?_ 1 _ rfl; (with_reducible repeat (first | refine blk_drewN ?_ _ | refine blk_drew ?_ | refine blk_alloc ?_ _)); refine blk_put (cs := #[.int .i64 0, .int .i64 0, .slice none 0 0]) ?_ 0 _ rfl; (with_reducible repeat (first | refine blk_drewN ?_ _ | refine blk_drew ?_ | refine blk_alloc ?_ _)); exact BK663.out) hb); have n12_ := Aside0.mk (below_step (nC HB) hb); clear HO_638002; clear HO_645002; clear HO654; clear HO661; clear BK628; clear BK629; clear BK630; clear BK637; clear BK644; clear BK656; clear BK663; clear HB; have HO_638002 := n0_; have HO_645002 := n1_; have HO654 := n2_; have HO661 := n3_; have HO668 := n4_; have BK628 := n5_; have BK629 := n6_; have BK630 := n7_; have BK637 := n8_; have BK644 := n9_; have BK656 := n10_; have BK663 := n11_; have HB := n12_; clear n0_ n1_ n2_ n3_ n4_ n5_ n6_ n7_ n8_ n9_ n10_ n11_ n12_; (try clear hb); (try clear hb2); (try clear hk); (try clear hi); (try clear ho0)) | ((with_reducible refine gate_dst (N := 17) rfl ?_); refine box_event ?hg (N := 17) ?hd (cs := #[.int .i64 0, .int .i64 0, .slice none 0 0]) (t := 24) ?hr ?_; (case hd => rfl); (case hg => rfl); (case hr => first | (go_simp; done) | (go_simp; rfl)); intro gb670 hg w97 hbox hb; have n0_ := Aside0.mk (Kd.R_below (nR HO_638002) hb); have n1_ := Aside0.mk (Kd.R_below (nR HO_645002) hb); have n2_ := Aside0.mk (Kd.R_below (nR HO654) hb); have n3_ := Aside0.mk (Kd.R_below (nR HO661) hb); have n4_ := Aside0.mk (Kd.R_below (nR HO668) hb); have n5_ := Aside0.mk (nB BK628 hb); have n6_ := Aside0.mk (nB BK629 hb); have n7_ := Aside0.mk (nB BK630 hb); have n8_ := Aside0.mk (nB BK637 hb); have n9_ := Aside0.mk (nB BK644 hb); have n10_ := Aside0.mk (nB BK656 hb); have n11_ := Aside0.mk (nB BK663 hb); have n12_ := Aside0.mk (below_step (nC HB) hb); have n13_ := Aside0.mk (hbox); have n14_ := Aside0.mk ((by rw [hg]; exact (below_size (nC HB)) : w.heap.size ≤ gb670)); have n15_ := Aside0.mk ((by rw [hg]; exact (below_size (nC HB)) : w.heap.size ≤ gb670)); have n16_ := Aside0.mk ((by rw [hg]; exact Nat.ne_of_lt (blk_lt (g := gb628) (o := .cells #[.int .i64 a0_0, .int .i64 a0_1, .slice A0_2 l0_2.length c0_2] 24 (0, 0)) (nK BK628)) : gb628 ≠ gb670)); have n17_ := Aside0.mk ((by rw [hg]; exact Nat.ne_of_gt (blk_lt (g := gb628) (o := .cells #[.int .i64 a0_0, .int .i64 a0_1, .slice A0_2 l0_2.length c0_2] 24 (0, 0)) (nK BK628)) : gb670 ≠ gb628)); have n18_ := Aside0.mk ((by rw [hg]; exact Nat.ne_of_lt (blk_lt (g := gb629) (o := .cells #[.int .i64 a1_0, .int .i64 a1_1, .slice A1_2 l1_2.length c1_2] 24 (0, 0)) (nK BK629)) : gb629 ≠ gb670)); have n19_ := Aside0.mk ((by rw [hg]; exact Nat.ne_of_gt (blk_lt (g := gb629) (o := .cells #[.int .i64 a1_0, .int .i64 a1_1, .slice A1_2 l1_2.length c1_2] 24 (0, 0)) (nK BK629)) : gb670 ≠ gb629)); have n20_ := Aside0.mk ((by rw [hg]; exact Nat.ne_of_lt (blk_lt (g := gb630) (o := .cells #[.int .i64 a2_0, .int .i64 a2_1, .slice A2_2 l2_2.length c2_2] 24 (0, 0)) (nK BK630)) : gb630 ≠ gb670)); have n21_ := Aside0.mk ((by rw [hg]; exact Nat.ne_of_gt (blk_lt (g := gb630) (o := .cells #[.int .i64 a2_0, .int .i64 a2_1, .slice A2_2 l2_2.length c2_2] 24 (0, 0)) (nK BK630)) : gb670 ≠ gb630)); have n22_ := Aside0.mk ((by rw [hg]; exact Nat.ne_of_lt (blk_lt (g := gb637) (o := .cells #[.int .i64 t631, .int .i64 t632, .slice Ao23 t633.length co23] 24 (0, 0)) (nK BK637)) : gb637 ≠ gb670)); have n23_ := Aside0.mk ((by rw [hg]; exact Nat.ne_of_gt (blk_lt (g := gb637) (o := .cells #[.int .i64 t631, .int .i64 t632, .slice Ao23 t633.length co23] 24 (0, 0)) (nK BK637)) : gb670 ≠ gb637)); have n24_ := Aside0.mk ((by rw [hg]; exact Nat.ne_of_lt (blk_lt (g := gb644) (o := .cells #[.int .i64 t638, .int .i64 t639, .slice Ao33 t640.length co33] 24 (0, 0)) (nK BK644)) : gb644 ≠ gb670)); have n25_ := Aside0.mk ((by rw [hg]; exact Nat.ne_of_gt (blk_lt (g := gb644) (o := .cells #[.int .i64 t638, .int .i64 t639, .slice Ao33 t640.length co33] 24 (0, 0)) (nK BK644)) : gb670 ≠ gb644)); have n26_ := Aside0.mk ((by rw [hg]; exact Nat.ne_of_lt (blk_lt (g := gb656) (o := .cells #[.int .i64 t650, .int .i64 t651, .slice Ao79 t652.length co79] 24 (0, 0)) (nK BK656)) : gb656 ≠ gb670)); have n27_ := Aside0.mk ((by rw [hg]; exact Nat.ne_of_gt (blk_lt (g := gb656) (o := .cells #[.int .i64 t650, .int .i64 t651, .slice Ao79 t652.length co79] 24 (0, 0)) (nK BK656)) : gb670 ≠ gb656)); have n28_ := Aside0.mk ((by rw [hg]; exact Nat.ne_of_lt (blk_lt (g := gb663) (o := .cells #[.int .i64 t657, .int .i64 t658, .slice Ao93 t659.length co93] 24 (0, 0)) (nK BK663)) : gb663 ≠ gb670)); have n29_ := Aside0.mk ((by rw [hg]; exact Nat.ne_of_gt (blk_lt (g := gb663) (o := .cells #[.int .i64 t657, .int .i64 t658, .slice Ao93 t659.length co93] 24 (0, 0)) (nK BK663)) : gb670 ≠ gb663)); clear HO_638002; clear HO_645002; clear HO654; clear HO661; clear HO668; clear BK628; clear BK629; clear BK630; clear BK637; clear BK644; clear BK656; clear BK663; clear HB; have HO_638002 := n0_; have HO_645002 := n1_; have HO654 := n2_; have HO661 := n3_; have HO668 := n4_; have BK628 := n5_; have BK629 := n6_; have BK630 := n7_; have BK637 := n8_; have BK644 := n9_; have BK656 := n10_; have BK663 := n11_; have HB := n12_; have BK670 := n13_; have GW670 := n14_; have GE670 := n15_; have NB628_670 := n16_; have NB670_628 := n17_; have NB629_670 := n18_; have NB670_629 := n19_; have NB630_670 := n20_; have NB670_630 := n21_; have NB637_670 := n22_; have NB670_637 := n23_; have NB644_670 := n24_; have NB670_644 := n25_; have NB656_670 := n26_; have NB670_656 := n27_; have NB663_670 := n28_; have NB670_663 := n29_; clear n0_ n1_ n2_ n3_ n4_ n5_ n6_ n7_ n8_ n9_ n10_ n11_ n12_ n13_ n14_ n15_ n16_ n17_ n18_ n19_ n20_ n21_ n22_ n23_ n24_ n25_ n26_ n27_ n28_ n29_; clear hb hbox hg; have hnb98 := NB670_628.out; have hnc98 := NB628_670.out; have hnb99 := NB670_629.out; have hnc99 := NB629_670.out; have hnb100 := NB670_630.out; have hnc100 := NB630_670.out; have hnb101 := NB670_637.out; have hnc101 := NB637_670.out; have hnb102 := NB670_644.out; have hnc102 := NB644_670.out; have hnb103 := NB670_656.out; have hnc103 := NB656_670.out; have hnb104 := NB670_663.out; have hnc104 := NB663_670.out; have hcz105_0 : w97.cell? ⟨gb670, 0, none⟩ = some (.int .i64 0) := (blk_cell BK670.out 0).trans rfl; have hcz105_1 : w97.cell? ⟨gb670, 1, none⟩ = some (.int .i64 0) := (blk_cell BK670.out 1).trans rfl; have hcz105_2 : w97.cell? ⟨gb670, 2, none⟩ = some (.slice none 0 0) := (blk_cell BK670.out 2).trans rfl; have hfz105_0 := blk_frozen BK670.out 0; have hfz105_1 := blk_frozen BK670.out 1; have hfz105_2 := blk_frozen BK670.out 2; obtain ⟨Ao106, co106, eo106⟩ := Kd.R_slice HO668.out; subst eo106))
       (try simp only [Act.put, List.setIfInBounds_toArray, List.set_cons_zero, List.set_cons_succ])
       go_cut [101] (fun v101 wc => ∃ (kq : Nat) (x101_60 : Bool), v101 = .bool x101_60 ∧ Aside0 (kimberlitelaw03_CurveJoins.j1 kq a3 a4 x101_60 a0_0 a0_1 l0_2 a1_0 a1_1 l1_2 t631 t632 t633 = some r) ∧ Aside0 (kq ≤ kj7) ∧ Aside0 (Kd.R (Kd.int .i64) 3 wc w.heap.size (fun k_ => some k_ ≠ ((.slice Ao33 t640.length co33) : Value).ownBlock ∧ some k_ ≠ ((.slice Ao79 t652.length co79) : Value).ownBlock ∧ some k_ ≠ ((.slice Ao93 t659.length co93) : Value).ownBlock ∧ some k_ ≠ ((.slice Ao106 t666.length co106) : Value).ownBlock) (.slice Ao23 t633.length co23) t633) ∧ Aside0 (Kd.R (Kd.int .i64) 3 wc w.heap.size (fun k_ => some k_ ≠ ((.slice Ao23 t633.length co23) : Value).ownBlock ∧ some k_ ≠ ((.slice Ao79 t652.length co79) : Value).ownBlock ∧ some k_ ≠ ((.slice Ao93 t659.length co93) : Value).ownBlock ∧ some k_ ≠ ((.slice Ao106 t666.length co106) : Value).ownBlock) (.slice Ao33 t640.length co33) t640) ∧ Aside0 (Kd.R (Kd.int .i64) 3 wc w.heap.size (fun k_ => some k_ ≠ ((.slice Ao23 t633.length co23) : Value).ownBlock ∧ some k_ ≠ ((.slice Ao33 t640.length co33) : Value).ownBlock ∧ some k_ ≠ ((.slice Ao93 t659.length co93) : Value).ownBlock ∧ some k_ ≠ ((.slice Ao106 t666.length co106) : Value).ownBlock) (.slice Ao79 t652.length co79) t652) ∧ Aside0 (Kd.R (Kd.int .i64) 3 wc w.heap.size (fun k_ => some k_ ≠ ((.slice Ao23 t633.length co23) : Value).ownBlock ∧ some k_ ≠ ((.slice Ao33 t640.length co33) : Value).ownBlock ∧ some k_ ≠ ((.slice Ao79 t652.length co79) : Value).ownBlock ∧ some k_ ≠ ((.slice Ao106 t666.length co106) : Value).ownBlock) (.slice Ao93 t659.length co93) t659) ∧ Aside0 (Kd.R (Kd.int .i64) 3 wc w.heap.size (fun k_ => some k_ ≠ ((.slice Ao23 t633.length co23) : Value).ownBlock ∧ some k_ ≠ ((.slice Ao33 t640.length co33) : Value).ownBlock ∧ some k_ ≠ ((.slice Ao79 t652.length co79) : Value).ownBlock ∧ some k_ ≠ ((.slice Ao93 t659.length co93) : Value).ownBlock) (.slice Ao106 t666.length co106) t666) ∧ Aside0 (wc.heap[gb628]? = some (.cells #[.int .i64 a0_0, .int .i64 a0_1, (.slice A0_2 l0_2.length c0_2)] 24 (0, 0))) ∧ Aside0 (wc.heap[gb629]? = some (.cells #[.int .i64 a1_0, .int .i64 a1_1, (.slice A1_2 l1_2.length c1_2)] 24 (0, 0))) ∧ Aside0 (wc.heap[gb630]? = some (.cells #[.int .i64 a2_0, .int .i64 a2_1, (.slice A2_2 l2_2.length c2_2)] 24 (0, 0))) ∧ Aside0 (wc.heap[gb637]? = some (.cells #[.int .i64 t631, .int .i64 t632, (.slice Ao23 t633.length co23)] 24 (0, 0))) ∧ Aside0 (wc.heap[gb644]? = some (.cells #[.int .i64 t638, .int .i64 t639, (.slice Ao33 t640.length co33)] 24 (0, 0))) ∧ Aside0 (wc.heap[gb656]? = some (.cells #[.int .i64 t650, .int .i64 t651, (.slice Ao79 t652.length co79)] 24 (0, 0))) ∧ Aside0 (wc.heap[gb663]? = some (.cells #[.int .i64 t657, .int .i64 t658, (.slice Ao93 t659.length co93)] 24 (0, 0))) ∧ Aside0 (wc.heap[gb670]? = some (.cells #[.int .i64 t664, .int .i64 t665, (.slice Ao106 t666.length co106)] 24 (0, 0))) ∧ Aside0 (Below w.heap.size w wc))
       case first =>
        as_aux_lemma =>
        have H := HC61.out
        clear HC61
        by_cases c107 : t655 = 0
        · rw [if_pos c107] at H
          have c107b0 : (t655 == 0) = true := beq_iff_eq.mpr c107
          have c107b1 : (t655 != 0) = false := bne_eq_false_iff_eq.mpr c107
          clear c107
          (first | rw [c107b0] | (simp only [i64_w, i32_w]; rw [c107b0]) | skip)
          by_cases c108 : t662 = 0
          · rw [if_pos c108] at H
            have c108b0 : (t662 == 0) = true := beq_iff_eq.mpr c108
            have c108b1 : (t662 != 0) = false := bne_eq_false_iff_eq.mpr c108
            clear c108
            by_cases c109 : t669 = 0
            · rw [if_pos c109] at H
              have c109b0 : (t669 == 0) = true := beq_iff_eq.mpr c109
              have c109b1 : (t669 != 0) = false := bne_eq_false_iff_eq.mpr c109
              clear c109
              replace H := Option.bind_eq_some_iff.mp H
              obtain ⟨t671, A1100, H⟩ := H
              replace H : (kimberlitelaw03_CurveJoins.j1 kj7 a3 a4 (!t671) a0_0 a0_1 l0_2 a1_0 a1_1 l1_2 t631 t632 t633) = some r := H
              have A110 := Aside0.mk A1100
              clear A1100
              have H' := Aside0.mk H
              clear H
              have hnb111 := NB656_628.out
              have hnc111 := NB628_656.out
              have hnb112 := NB656_629.out
              have hnc112 := NB629_656.out
              have hnb113 := NB656_630.out
              have hnc113 := NB630_656.out
              have hnb114 := NB656_637.out
              have hnc114 := NB637_656.out
              have hnb115 := NB656_644.out
              have hnc115 := NB644_656.out
              have hnb116 := NB656_663.out
              have hnc116 := NB663_656.out
              have hnb117 := NB656_670.out
              have hnc117 := NB670_656.out
              have hcz118_0 : w97.cell? ⟨gb656, 0, none⟩ = some (.int .i64 t650) := (blk_cell BK656.out 0).trans rfl
              have hcz118_1 : w97.cell? ⟨gb656, 1, none⟩ = some (.int .i64 t651) := (blk_cell BK656.out 1).trans rfl
              have hcz118_2 : w97.cell? ⟨gb656, 2, none⟩ = some (.slice Ao79 t652.length co79) := (blk_cell BK656.out 2).trans rfl
              have hfz118_0 := blk_frozen BK656.out 0
              have hfz118_1 := blk_frozen BK656.out 1
              have hfz118_2 := blk_frozen BK656.out 2
              have hnb119 := NB670_628.out
              have hnc119 := NB628_670.out
              have hnb120 := NB670_629.out
              have hnc120 := NB629_670.out
              have hnb121 := NB670_630.out
              have hnc121 := NB630_670.out
              have hnb122 := NB670_637.out
              have hnc122 := NB637_670.out
              have hnb123 := NB670_644.out
              have hnc123 := NB644_670.out
              have hnb124 := NB670_663.out
              have hnc124 := NB663_670.out
              have hcz125_0 : w97.cell? ⟨gb670, 0, none⟩ = some (.int .i64 0) := (blk_cell BK670.out 0).trans rfl
              have hcz125_1 : w97.cell? ⟨gb670, 1, none⟩ = some (.int .i64 0) := (blk_cell BK670.out 1).trans rfl
              have hcz125_2 : w97.cell? ⟨gb670, 2, none⟩ = some (.slice none 0 0) := (blk_cell BK670.out 2).trans rfl
              have hfz125_0 := blk_frozen BK670.out 0
              have hfz125_1 := blk_frozen BK670.out 1
              have hfz125_2 := blk_frozen BK670.out 2
              go_wp2_with (first | (go_at_call 15; (with_reducible refine (kimberlitelaw03_alike.calls kj7 t650 t651 _ _ t652 t664 t665 _ _ t666 t671 _ ?side1 ?side2 ?side3 ?side4 A110.out).mono ?_); (case side1 => refine (Kd.R_reads' (e := 3) (base := w.heap.size) (ok := fun k_ => ((((True ∧ some k_ ≠ (.slice Ao23 t633.length co23 : Value).ownBlock) ∧ some k_ ≠ (.slice Ao33 t640.length co33 : Value).ownBlock) ∧ some k_ ≠ (.slice Ao93 t659.length co93 : Value).ownBlock) ∧ some k_ ≠ (.slice Ao106 t666.length co106 : Value).ownBlock)) (n := t652.length) (c := co79) ?_).2.2; exact (by (with_reducible repeat (first | apply Kd.R_alloc | apply Kd.R_drewN | apply Kd.R_drew)); exact (Kd.R_mono (Kd.R_far (p := ⟨gb670, 2, none⟩) (Kd.R_far (p := ⟨gb670, 1, none⟩) (Kd.R_far (p := ⟨gb670, 0, none⟩) (Kd.R_types HO654.out BK670.out (by decide)) (fun _ hk => hk.2) (.int .i64 t664)) (fun _ hk => hk.2) (.int .i64 t665)) (fun _ hk => hk.2) (.slice Ao106 t666.length co106)) (fun _ h_ => h_.1)))); (case side2 => exact (Kd.R_reads' HO654.out).2.1); (case side3 => refine (Kd.R_reads' (e := 3) (base := w.heap.size) (ok := fun k_ => ((((True ∧ some k_ ≠ (.slice Ao23 t633.length co23 : Value).ownBlock) ∧ some k_ ≠ (.slice Ao33 t640.length co33 : Value).ownBlock) ∧ some k_ ≠ (.slice Ao79 t652.length co79 : Value).ownBlock) ∧ some k_ ≠ (.slice Ao93 t659.length co93 : Value).ownBlock)) (n := t666.length) (c := co106) ?_).2.2; exact (by (with_reducible repeat (first | apply Kd.R_alloc | apply Kd.R_drewN | apply Kd.R_drew)); exact (Kd.R_mono (Kd.R_far (p := ⟨gb670, 2, none⟩) (Kd.R_far (p := ⟨gb670, 1, none⟩) (Kd.R_far (p := ⟨gb670, 0, none⟩) (Kd.R_types HO668.out BK670.out (by decide)) (fun _ hk => hk.2) (.int .i64 t664)) (fun _ hk => hk.2) (.int .i64 t665)) (fun _ hk => hk.2) (.slice Ao106 t666.length co106)) (fun _ h_ => h_.1)))); (case side4 => exact (Kd.R_reads' HO668.out).2.1); rintro e w126 ⟨rfl, hb⟩; have n0_ := Aside0.mk (Kd.R_below (by (with_reducible repeat (first | apply Kd.R_alloc | apply Kd.R_drewN | apply Kd.R_drew)); exact (Kd.R_mono (Kd.R_far (p := ⟨gb670, 2, none⟩) (Kd.R_far (p := ⟨gb670, 1, none⟩) (Kd.R_far (p := ⟨gb670, 0, none⟩) (Kd.R_types HO_638002.out BK670.out (by decide)) (fun _ hk => hk.2) (.int .i64 t664)) (fun _ hk => hk.2) (.int .i64 t665)) (fun _ hk => hk.2) (.slice Ao106 t666.length co106)) (fun _ h_ => h_.1))) hb); have n1_ := Aside0.mk (Kd.R_below (by (with_reducible repeat (first | apply Kd.R_alloc | apply Kd.R_drewN | apply Kd.R_drew)); exact (Kd.R_mono (Kd.R_far (p := ⟨gb670, 2, none⟩) (Kd.R_far (p := ⟨gb670, 1, none⟩) (Kd.R_far (p := ⟨gb670, 0, none⟩) (Kd.R_types HO_645002.out BK670.out (by decide)) (fun _ hk => hk.2) (.int .i64 t664)) (fun _ hk => hk.2) (.int .i64 t665)) (fun _ hk => hk.2) (.slice Ao106 t666.length co106)) (fun _ h_ => h_.1))) hb); have n2_ := Aside0.mk (Kd.R_below (by (with_reducible repeat (first | apply Kd.R_alloc | apply Kd.R_drewN | apply Kd.R_drew)); exact (Kd.R_mono (Kd.R_far (p := ⟨gb670, 2, none⟩) (Kd.R_far (p := ⟨gb670, 1, none⟩) (Kd.R_far (p := ⟨gb670, 0, none⟩) (Kd.R_types HO654.out BK670.out (by decide)) (fun _ hk => hk.2) (.int .i64 t664)) (fun _ hk => hk.2) (.int .i64 t665)) (fun _ hk => hk.2) (.slice Ao106 t666.length co106)) (fun _ h_ => h_.1))) hb); have n3_ := Aside0.mk (Kd.R_below (by (with_reducible repeat (first | apply Kd.R_alloc | apply Kd.R_drewN | apply Kd.R_drew)); exact (Kd.R_mono (Kd.R_far (p := ⟨gb670, 2, none⟩) (Kd.R_far (p := ⟨gb670, 1, none⟩) (Kd.R_far (p := ⟨gb670, 0, none⟩) (Kd.R_types HO661.out BK670.out (by decide)) (fun _ hk => hk.2) (.int .i64 t664)) (fun _ hk => hk.2) (.int .i64 t665)) (fun _ hk => hk.2) (.slice Ao106 t666.length co106)) (fun _ h_ => h_.1))) hb); have n4_ := Aside0.mk (Kd.R_below (by (with_reducible repeat (first | apply Kd.R_alloc | apply Kd.R_drewN | apply Kd.R_drew)); exact (Kd.R_mono (Kd.R_far (p := ⟨gb670, 2, none⟩) (Kd.R_far (p := ⟨gb670, 1, none⟩) (Kd.R_far (p := ⟨gb670, 0, none⟩) (Kd.R_types HO668.out BK670.out (by decide)) (fun _ hk => hk.2) (.int .i64 t664)) (fun _ hk => hk.2) (.int .i64 t665)) (fun _ hk => hk.2) (.slice Ao106 t666.length co106)) (fun _ h_ => h_.1))) hb); have n5_ := Aside0.mk (blk_below (g := gb628) (o := .cells #[.int .i64 a0_0, .int .i64 a0_1, .slice A0_2 l0_2.length c0_2] 24 (0, 0)) (by (with_reducible repeat (first | refine blk_drewN ?_ _ | refine blk_drew ?_ | refine blk_alloc ?_ _)); refine blk_far ?_ NB628_670.out _; (with_reducible repeat (first | refine blk_drewN ?_ _ | refine blk_drew ?_ | refine blk_alloc ?_ _)); refine blk_far ?_ NB628_670.out _; (with_reducible repeat (first | refine blk_drewN ?_ _ | refine blk_drew ?_ | refine blk_alloc ?_ _)); refine blk_far ?_ NB628_670.out _; (with_reducible repeat (first | refine blk_drewN ?_ _ | refine blk_drew ?_ | refine blk_alloc ?_ _)); exact BK628.out) hb); have n6_ := Aside0.mk (blk_below (g := gb629) (o := .cells #[.int .i64 a1_0, .int .i64 a1_1, .slice A1_2 l1_2.length c1_2] 24 (0, 0)) (by (with_reducible repeat (first | refine blk_drewN ?_ _ | refine blk_drew ?_ | refine blk_alloc ?_ _)); refine blk_far ?_ NB629_670.out _; (with_reducible repeat (first | refine blk_drewN ?_ _ | refine blk_drew ?_ | refine blk_alloc ?_ _)); refine blk_far ?_ NB629_670.out _; (with_reducible repeat (first | refine blk_drewN ?_ _ | refine blk_drew ?_ | refine blk_alloc ?_ _)); refine blk_far ?_ NB629_670.out _; (with_reducible repeat (first | refine blk_drewN ?_ _ | refine blk_drew ?_ | refine blk_alloc ?_ _)); exact BK629.out) hb); have n7_ := Aside0.mk (blk_below (g := gb630) (o := .cells #[.int .i64 a2_0, .int .i64 a2_1, .slice A2_2 l2_2.length c2_2] 24 (0, 0)) (by (with_reducible repeat (first | refine blk_drewN ?_ _ | refine blk_drew ?_ | refine blk_alloc ?_ _)); refine blk_far ?_ NB630_670.out _; (with_reducible repeat (first | refine blk_drewN ?_ _ | refine blk_drew ?_ | refine blk_alloc ?_ _)); refine blk_far ?_ NB630_670.out _; (with_reducible repeat (first | refine blk_drewN ?_ _ | refine blk_drew ?_ | refine blk_alloc ?_ _)); refine blk_far ?_ NB630_670.out _; (with_reducible repeat (first | refine blk_drewN ?_ _ | refine blk_drew ?_ | refine blk_alloc ?_ _)); exact BK630.out) hb); have n8_ := Aside0.mk (blk_below (g := gb637) (o := .cells #[.int .i64 t631, .int .i64 t632, .slice Ao23 t633.length co23] 24 (0, 0)) (by (with_reducible repeat (first | refine blk_drewN ?_ _ | refine blk_drew ?_ | refine blk_alloc ?_ _)); refine blk_far ?_ NB637_670.out _; (with_reducible repeat (first | refine blk_drewN ?_ _ | refine blk_drew ?_ | refine blk_alloc ?_ _)); refine blk_far ?_ NB637_670.out _; (with_reducible repeat (first | refine blk_drewN ?_ _ | refine blk_drew ?_ | refine blk_alloc ?_ _)); refine blk_far ?_ NB637_670.out _; (with_reducible repeat (first | refine blk_drewN ?_ _ | refine blk_drew ?_ | refine blk_alloc ?_ _)); exact BK637.out) hb); have n9_ := Aside0.mk (blk_below (g := gb644) (o := .cells #[.int .i64 t638, .int .i64 t639, .slice Ao33 t640.length co33] 24 (0, 0)) (by (with_reducible repeat (first | refine blk_drewN ?_ _ | refine blk_drew ?_ | refine blk_alloc ?_ _)); refine blk_far ?_ NB644_670.out _; (with_reducible repeat (first | refine blk_drewN ?_ _ | refine blk_drew ?_ | refine blk_alloc ?_ _)); refine blk_far ?_ NB644_670.out _; (with_reducible repeat (first | refine blk_drewN ?_ _ | refine blk_drew ?_ | refine blk_alloc ?_ _)); refine blk_far ?_ NB644_670.out _; (with_reducible repeat (first | refine blk_drewN ?_ _ | refine blk_drew ?_ | refine blk_alloc ?_ _)); exact BK644.out) hb); have n10_ := Aside0.mk (blk_below (g := gb656) (o := .cells #[.int .i64 t650, .int .i64 t651, .slice Ao79 t652.length co79] 24 (0, 0)) (by (with_reducible repeat (first | refine blk_drewN ?_ _ | refine blk_drew ?_ | refine blk_alloc ?_ _)); refine blk_far ?_ NB656_670.out _; (with_reducible repeat (first | refine blk_drewN ?_ _ | refine blk_drew ?_ | refine blk_alloc ?_ _)); refine blk_far ?_ NB656_670.out _; (with_reducible repeat (first | refine blk_drewN ?_ _ | refine blk_drew ?_ | refine blk_alloc ?_ _)); refine blk_far ?_ NB656_670.out _; (with_reducible repeat (first | refine blk_drewN ?_ _ | refine blk_drew ?_ | refine blk_alloc ?_ _)); exact BK656.out) hb); have n11_ := Aside0.mk (blk_below (g := gb663) (o := .cells #[.int .i64 t657, .int .i64 t658, .slice Ao93 t659.length co93] 24 (0, 0)) (by (with_reducible repeat (first | refine blk_drewN ?_ _ | refine blk_drew ?_ | refine blk_alloc ?_ _)); refine blk_far ?_ NB663_670.out _; (with_reducible repeat (first | refine blk_drewN ?_ _ | refine blk_drew ?_ | refine blk_alloc ?_ _)); refine blk_far ?_ NB663_670.out _; (with_reducible repeat (first | refine blk_drewN ?_ _ | refine blk_drew ?_ | refine blk_alloc ?_ _)); refine blk_far ?_ NB663_670.out _; (with_reducible repeat (first | refine blk_drewN ?_ _ | refine blk_drew ?_ | refine blk_alloc ?_ _)); exact BK663.out) hb); have n12_ := Aside0.mk (blk_below (g := gb670) (o := .cells #[.int .i64 t664, .int .i64 t665, .slice Ao106 t666.length co106] 24 (0, 0)) (by (with_reducible repeat (first | refine blk_drewN ?_ _ | refine blk_drew ?_ | refine blk_alloc ?_ _)); refine blk_put (cs := #[.int .i64 t664, .int .i64 t665, .slice none 0 0]) ?_ 2 _ rfl; (with_reducible repeat (first | refine blk_drewN ?_ _ | refine blk_drew ?_ | refine blk_alloc ?_ _)); refine blk_put (cs := #[.int .i64 t664, .int .i64 0, .slice none 0 0]) ?_ 1 _ rfl; (with_reducible repeat (first | refine blk_drewN ?_ _ | refine blk_drew ?_ | refine blk_alloc ?_ _)); refine blk_put (cs := #[.int .i64 0, .int .i64 0, .slice none 0 0]) ?_ 0 _ rfl; (with_reducible repeat (first | refine blk_drewN ?_ _ | refine blk_drew ?_ | refine blk_alloc ?_ _)); exact BK670.out) hb); have n13_ := Aside0.mk (below_step (nC HB) hb); clear HO_638002; clear HO_645002; clear HO654; clear HO661; clear HO668; clear BK628; clear BK629; clear BK630; clear BK637; clear BK644; clear BK656; clear BK663; clear BK670; clear HB; have HO_638002 := n0_; have HO_645002 := n1_; have HO654 := n2_; have HO661 := n3_; have HO668 := n4_; have BK628 := n5_; have BK629 := n6_; have BK630 := n7_; have BK637 := n8_; have BK644 := n9_; have BK656 := n10_; have BK663 := n11_; have BK670 := n12_; have HB := n13_; clear n0_ n1_ n2_ n3_ n4_ n5_ n6_ n7_ n8_ n9_ n10_ n11_ n12_ n13_; (try clear hb); (try clear hb2); (try clear hk); (try clear hi)))
              go_meet
              case rel => exact ⟨_, (!t671), (by first | rfl | (simp; done) | (simp [*]; done)), H', ⟨by have := HJ7.out; first | omega | exact Nat.le_refl _⟩, ⟨by (with_reducible repeat (first | apply Kd.R_alloc | apply Kd.R_drewN | apply Kd.R_drew)); exact Kd.R_mono HO_638002.out (fun _ hk => ⟨hk.1.1.1, ⟨hk.1.1.2, ⟨hk.1.2, hk.2⟩⟩⟩)⟩, ⟨by (with_reducible repeat (first | apply Kd.R_alloc | apply Kd.R_drewN | apply Kd.R_drew)); exact Kd.R_mono HO_645002.out (fun _ hk => ⟨hk.1.1.1, ⟨hk.1.1.2, ⟨hk.1.2, hk.2⟩⟩⟩)⟩, ⟨by (with_reducible repeat (first | apply Kd.R_alloc | apply Kd.R_drewN | apply Kd.R_drew)); exact Kd.R_mono HO654.out (fun _ hk => ⟨hk.1.1.1.2, ⟨hk.1.1.2, ⟨hk.1.2, hk.2⟩⟩⟩)⟩, ⟨by (with_reducible repeat (first | apply Kd.R_alloc | apply Kd.R_drewN | apply Kd.R_drew)); exact Kd.R_mono HO661.out (fun _ hk => ⟨hk.1.1.1.2, ⟨hk.1.1.2, ⟨hk.1.2, hk.2⟩⟩⟩)⟩, ⟨by (with_reducible repeat (first | apply Kd.R_alloc | apply Kd.R_drewN | apply Kd.R_drew)); exact Kd.R_mono HO668.out (fun _ hk => ⟨hk.1.1.1.2, ⟨hk.1.1.2, ⟨hk.1.2, hk.2⟩⟩⟩)⟩, ⟨nK BK628⟩, ⟨nK BK629⟩, ⟨nK BK630⟩, ⟨nK BK637⟩, ⟨nK BK644⟩, ⟨nK BK656⟩, ⟨nK BK663⟩, ⟨nK BK670⟩, ⟨nC HB⟩⟩
            · rw [if_neg c109] at H
              have c109b0 : (t669 == 0) = false := beq_eq_false_iff_ne.mpr c109
              have c109b1 : (t669 != 0) = true := bne_iff_ne.mpr c109
              have H' := Aside0.mk H
              clear H
              go_wp2
              go_meet
              case rel => exact ⟨_, (false), (by first | rfl | (simp; done) | (simp [*]; done)), H', ⟨by have := HJ7.out; first | omega | exact Nat.le_refl _⟩, ⟨by (with_reducible repeat (first | apply Kd.R_alloc | apply Kd.R_drewN | apply Kd.R_drew)); exact Kd.R_mono (Kd.R_far (p := ⟨gb670, 2, none⟩) (Kd.R_far (p := ⟨gb670, 1, none⟩) (Kd.R_far (p := ⟨gb670, 0, none⟩) (Kd.R_types HO_638002.out BK670.out (by decide)) (fun _ hk => hk.2) (.int .i64 t664)) (fun _ hk => hk.2) (.int .i64 t665)) (fun _ hk => hk.2) (.slice Ao106 t666.length co106)) (fun _ hk => ⟨hk.1.1.1.1, ⟨hk.1.1.1.2, ⟨hk.1.1.2, hk.1.2⟩⟩⟩)⟩, ⟨by (with_reducible repeat (first | apply Kd.R_alloc | apply Kd.R_drewN | apply Kd.R_drew)); exact Kd.R_mono (Kd.R_far (p := ⟨gb670, 2, none⟩) (Kd.R_far (p := ⟨gb670, 1, none⟩) (Kd.R_far (p := ⟨gb670, 0, none⟩) (Kd.R_types HO_645002.out BK670.out (by decide)) (fun _ hk => hk.2) (.int .i64 t664)) (fun _ hk => hk.2) (.int .i64 t665)) (fun _ hk => hk.2) (.slice Ao106 t666.length co106)) (fun _ hk => ⟨hk.1.1.1.1, ⟨hk.1.1.1.2, ⟨hk.1.1.2, hk.1.2⟩⟩⟩)⟩, ⟨by (with_reducible repeat (first | apply Kd.R_alloc | apply Kd.R_drewN | apply Kd.R_drew)); exact Kd.R_mono (Kd.R_far (p := ⟨gb670, 2, none⟩) (Kd.R_far (p := ⟨gb670, 1, none⟩) (Kd.R_far (p := ⟨gb670, 0, none⟩) (Kd.R_types HO654.out BK670.out (by decide)) (fun _ hk => hk.2) (.int .i64 t664)) (fun _ hk => hk.2) (.int .i64 t665)) (fun _ hk => hk.2) (.slice Ao106 t666.length co106)) (fun _ hk => ⟨hk.1.1.1.1.2, ⟨hk.1.1.1.2, ⟨hk.1.1.2, hk.1.2⟩⟩⟩)⟩, ⟨by (with_reducible repeat (first | apply Kd.R_alloc | apply Kd.R_drewN | apply Kd.R_drew)); exact Kd.R_mono (Kd.R_far (p := ⟨gb670, 2, none⟩) (Kd.R_far (p := ⟨gb670, 1, none⟩) (Kd.R_far (p := ⟨gb670, 0, none⟩) (Kd.R_types HO661.out BK670.out (by decide)) (fun _ hk => hk.2) (.int .i64 t664)) (fun _ hk => hk.2) (.int .i64 t665)) (fun _ hk => hk.2) (.slice Ao106 t666.length co106)) (fun _ hk => ⟨hk.1.1.1.1.2, ⟨hk.1.1.1.2, ⟨hk.1.1.2, hk.1.2⟩⟩⟩)⟩, ⟨by (with_reducible repeat (first | apply Kd.R_alloc | apply Kd.R_drewN | apply Kd.R_drew)); exact Kd.R_mono (Kd.R_far (p := ⟨gb670, 2, none⟩) (Kd.R_far (p := ⟨gb670, 1, none⟩) (Kd.R_far (p := ⟨gb670, 0, none⟩) (Kd.R_types HO668.out BK670.out (by decide)) (fun _ hk => hk.2) (.int .i64 t664)) (fun _ hk => hk.2) (.int .i64 t665)) (fun _ hk => hk.2) (.slice Ao106 t666.length co106)) (fun _ hk => ⟨hk.1.1.1.1.2, ⟨hk.1.1.1.2, ⟨hk.1.1.2, hk.1.2⟩⟩⟩)⟩, ⟨by (with_reducible repeat (first | refine blk_drewN ?_ _ | refine blk_drew ?_ | refine blk_alloc ?_ _)); refine blk_far ?_ NB628_670.out _; (with_reducible repeat (first | refine blk_drewN ?_ _ | refine blk_drew ?_ | refine blk_alloc ?_ _)); refine blk_far ?_ NB628_670.out _; (with_reducible repeat (first | refine blk_drewN ?_ _ | refine blk_drew ?_ | refine blk_alloc ?_ _)); refine blk_far ?_ NB628_670.out _; (with_reducible repeat (first | refine blk_drewN ?_ _ | refine blk_drew ?_ | refine blk_alloc ?_ _)); exact BK628.out⟩, ⟨by (with_reducible repeat (first | refine blk_drewN ?_ _ | refine blk_drew ?_ | refine blk_alloc ?_ _)); refine blk_far ?_ NB629_670.out _; (with_reducible repeat (first | refine blk_drewN ?_ _ | refine blk_drew ?_ | refine blk_alloc ?_ _)); refine blk_far ?_ NB629_670.out _; (with_reducible repeat (first | refine blk_drewN ?_ _ | refine blk_drew ?_ | refine blk_alloc ?_ _)); refine blk_far ?_ NB629_670.out _; (with_reducible repeat (first | refine blk_drewN ?_ _ | refine blk_drew ?_ | refine blk_alloc ?_ _)); exact BK629.out⟩, ⟨by (with_reducible repeat (first | refine blk_drewN ?_ _ | refine blk_drew ?_ | refine blk_alloc ?_ _)); refine blk_far ?_ NB630_670.out _; (with_reducible repeat (first | refine blk_drewN ?_ _ | refine blk_drew ?_ | refine blk_alloc ?_ _)); refine blk_far ?_ NB630_670.out _; (with_reducible repeat (first | refine blk_drewN ?_ _ | refine blk_drew ?_ | refine blk_alloc ?_ _)); refine blk_far ?_ NB630_670.out _; (with_reducible repeat (first | refine blk_drewN ?_ _ | refine blk_drew ?_ | refine blk_alloc ?_ _)); exact BK630.out⟩, ⟨by (with_reducible repeat (first | refine blk_drewN ?_ _ | refine blk_drew ?_ | refine blk_alloc ?_ _)); refine blk_far ?_ NB637_670.out _; (with_reducible repeat (first | refine blk_drewN ?_ _ | refine blk_drew ?_ | refine blk_alloc ?_ _)); refine blk_far ?_ NB637_670.out _; (with_reducible repeat (first | refine blk_drewN ?_ _ | refine blk_drew ?_ | refine blk_alloc ?_ _)); refine blk_far ?_ NB637_670.out _; (with_reducible repeat (first | refine blk_drewN ?_ _ | refine blk_drew ?_ | refine blk_alloc ?_ _)); exact BK637.out⟩, ⟨by (with_reducible repeat (first | refine blk_drewN ?_ _ | refine blk_drew ?_ | refine blk_alloc ?_ _)); refine blk_far ?_ NB644_670.out _; (with_reducible repeat (first | refine blk_drewN ?_ _ | refine blk_drew ?_ | refine blk_alloc ?_ _)); refine blk_far ?_ NB644_670.out _; (with_reducible repeat (first | refine blk_drewN ?_ _ | refine blk_drew ?_ | refine blk_alloc ?_ _)); refine blk_far ?_ NB644_670.out _; (with_reducible repeat (first | refine blk_drewN ?_ _ | refine blk_drew ?_ | refine blk_alloc ?_ _)); exact BK644.out⟩, ⟨by (with_reducible repeat (first | refine blk_drewN ?_ _ | refine blk_drew ?_ | refine blk_alloc ?_ _)); refine blk_far ?_ NB656_670.out _; (with_reducible repeat (first | refine blk_drewN ?_ _ | refine blk_drew ?_ | refine blk_alloc ?_ _)); refine blk_far ?_ NB656_670.out _; (with_reducible repeat (first | refine blk_drewN ?_ _ | refine blk_drew ?_ | refine blk_alloc ?_ _)); refine blk_far ?_ NB656_670.out _; (with_reducible repeat (first | refine blk_drewN ?_ _ | refine blk_drew ?_ | refine blk_alloc ?_ _)); exact BK656.out⟩, ⟨by (with_reducible repeat (first | refine blk_drewN ?_ _ | refine blk_drew ?_ | refine blk_alloc ?_ _)); refine blk_far ?_ NB663_670.out _; (with_reducible repeat (first | refine blk_drewN ?_ _ | refine blk_drew ?_ | refine blk_alloc ?_ _)); refine blk_far ?_ NB663_670.out _; (with_reducible repeat (first | refine blk_drewN ?_ _ | refine blk_drew ?_ | refine blk_alloc ?_ _)); refine blk_far ?_ NB663_670.out _; (with_reducible repeat (first | refine blk_drewN ?_ _ | refine blk_drew ?_ | refine blk_alloc ?_ _)); exact BK663.out⟩, ⟨by (with_reducible repeat (first | refine blk_drewN ?_ _ | refine blk_drew ?_ | refine blk_alloc ?_ _)); refine blk_put (cs := #[.int .i64 t664, .int .i64 t665, .slice none 0 0]) ?_ 2 _ rfl; (with_reducible repeat (first | refine blk_drewN ?_ _ | refine blk_drew ?_ | refine blk_alloc ?_ _)); refine blk_put (cs := #[.int .i64 t664, .int .i64 0, .slice none 0 0]) ?_ 1 _ rfl; (with_reducible repeat (first | refine blk_drewN ?_ _ | refine blk_drew ?_ | refine blk_alloc ?_ _)); refine blk_put (cs := #[.int .i64 0, .int .i64 0, .slice none 0 0]) ?_ 0 _ rfl; (with_reducible repeat (first | refine blk_drewN ?_ _ | refine blk_drew ?_ | refine blk_alloc ?_ _)); exact BK670.out⟩, ⟨nC HB⟩⟩
          · rw [if_neg c108] at H
            have c108b0 : (t662 == 0) = false := beq_eq_false_iff_ne.mpr c108
            have c108b1 : (t662 != 0) = true := bne_iff_ne.mpr c108
            have H' := Aside0.mk H
            clear H
            go_wp2
            go_meet
            case rel => exact ⟨_, (false), (by first | rfl | (simp; done) | (simp [*]; done)), H', ⟨by have := HJ7.out; first | omega | exact Nat.le_refl _⟩, ⟨by (with_reducible repeat (first | apply Kd.R_alloc | apply Kd.R_drewN | apply Kd.R_drew)); exact Kd.R_mono (Kd.R_far (p := ⟨gb670, 2, none⟩) (Kd.R_far (p := ⟨gb670, 1, none⟩) (Kd.R_far (p := ⟨gb670, 0, none⟩) (Kd.R_types HO_638002.out BK670.out (by decide)) (fun _ hk => hk.2) (.int .i64 t664)) (fun _ hk => hk.2) (.int .i64 t665)) (fun _ hk => hk.2) (.slice Ao106 t666.length co106)) (fun _ hk => ⟨hk.1.1.1.1, ⟨hk.1.1.1.2, ⟨hk.1.1.2, hk.1.2⟩⟩⟩)⟩, ⟨by (with_reducible repeat (first | apply Kd.R_alloc | apply Kd.R_drewN | apply Kd.R_drew)); exact Kd.R_mono (Kd.R_far (p := ⟨gb670, 2, none⟩) (Kd.R_far (p := ⟨gb670, 1, none⟩) (Kd.R_far (p := ⟨gb670, 0, none⟩) (Kd.R_types HO_645002.out BK670.out (by decide)) (fun _ hk => hk.2) (.int .i64 t664)) (fun _ hk => hk.2) (.int .i64 t665)) (fun _ hk => hk.2) (.slice Ao106 t666.length co106)) (fun _ hk => ⟨hk.1.1.1.1, ⟨hk.1.1.1.2, ⟨hk.1.1.2, hk.1.2⟩⟩⟩)⟩, ⟨by (with_reducible repeat (first | apply Kd.R_alloc | apply Kd.R_drewN | apply Kd.R_drew)); exact Kd.R_mono (Kd.R_far (p := ⟨gb670, 2, none⟩) (Kd.R_far (p := ⟨gb670, 1, none⟩) (Kd.R_far (p := ⟨gb670, 0, none⟩) (Kd.R_types HO654.out BK670.out (by decide)) (fun _ hk => hk.2) (.int .i64 t664)) (fun _ hk => hk.2) (.int .i64 t665)) (fun _ hk => hk.2) (.slice Ao106 t666.length co106)) (fun _ hk => ⟨hk.1.1.1.1.2, ⟨hk.1.1.1.2, ⟨hk.1.1.2, hk.1.2⟩⟩⟩)⟩, ⟨by (with_reducible repeat (first | apply Kd.R_alloc | apply Kd.R_drewN | apply Kd.R_drew)); exact Kd.R_mono (Kd.R_far (p := ⟨gb670, 2, none⟩) (Kd.R_far (p := ⟨gb670, 1, none⟩) (Kd.R_far (p := ⟨gb670, 0, none⟩) (Kd.R_types HO661.out BK670.out (by decide)) (fun _ hk => hk.2) (.int .i64 t664)) (fun _ hk => hk.2) (.int .i64 t665)) (fun _ hk => hk.2) (.slice Ao106 t666.length co106)) (fun _ hk => ⟨hk.1.1.1.1.2, ⟨hk.1.1.1.2, ⟨hk.1.1.2, hk.1.2⟩⟩⟩)⟩, ⟨by (with_reducible repeat (first | apply Kd.R_alloc | apply Kd.R_drewN | apply Kd.R_drew)); exact Kd.R_mono (Kd.R_far (p := ⟨gb670, 2, none⟩) (Kd.R_far (p := ⟨gb670, 1, none⟩) (Kd.R_far (p := ⟨gb670, 0, none⟩) (Kd.R_types HO668.out BK670.out (by decide)) (fun _ hk => hk.2) (.int .i64 t664)) (fun _ hk => hk.2) (.int .i64 t665)) (fun _ hk => hk.2) (.slice Ao106 t666.length co106)) (fun _ hk => ⟨hk.1.1.1.1.2, ⟨hk.1.1.1.2, ⟨hk.1.1.2, hk.1.2⟩⟩⟩)⟩, ⟨by (with_reducible repeat (first | refine blk_drewN ?_ _ | refine blk_drew ?_ | refine blk_alloc ?_ _)); refine blk_far ?_ NB628_670.out _; (with_reducible repeat (first | refine blk_drewN ?_ _ | refine blk_drew ?_ | refine blk_alloc ?_ _)); refine blk_far ?_ NB628_670.out _; (with_reducible repeat (first | refine blk_drewN ?_ _ | refine blk_drew ?_ | refine blk_alloc ?_ _)); refine blk_far ?_ NB628_670.out _; (with_reducible repeat (first | refine blk_drewN ?_ _ | refine blk_drew ?_ | refine blk_alloc ?_ _)); exact BK628.out⟩, ⟨by (with_reducible repeat (first | refine blk_drewN ?_ _ | refine blk_drew ?_ | refine blk_alloc ?_ _)); refine blk_far ?_ NB629_670.out _; (with_reducible repeat (first | refine blk_drewN ?_ _ | refine blk_drew ?_ | refine blk_alloc ?_ _)); refine blk_far ?_ NB629_670.out _; (with_reducible repeat (first | refine blk_drewN ?_ _ | refine blk_drew ?_ | refine blk_alloc ?_ _)); refine blk_far ?_ NB629_670.out _; (with_reducible repeat (first | refine blk_drewN ?_ _ | refine blk_drew ?_ | refine blk_alloc ?_ _)); exact BK629.out⟩, ⟨by (with_reducible repeat (first | refine blk_drewN ?_ _ | refine blk_drew ?_ | refine blk_alloc ?_ _)); refine blk_far ?_ NB630_670.out _; (with_reducible repeat (first | refine blk_drewN ?_ _ | refine blk_drew ?_ | refine blk_alloc ?_ _)); refine blk_far ?_ NB630_670.out _; (with_reducible repeat (first | refine blk_drewN ?_ _ | refine blk_drew ?_ | refine blk_alloc ?_ _)); refine blk_far ?_ NB630_670.out _; (with_reducible repeat (first | refine blk_drewN ?_ _ | refine blk_drew ?_ | refine blk_alloc ?_ _)); exact BK630.out⟩, ⟨by (with_reducible repeat (first | refine blk_drewN ?_ _ | refine blk_drew ?_ | refine blk_alloc ?_ _)); refine blk_far ?_ NB637_670.out _; (with_reducible repeat (first | refine blk_drewN ?_ _ | refine blk_drew ?_ | refine blk_alloc ?_ _)); refine blk_far ?_ NB637_670.out _; (with_reducible repeat (first | refine blk_drewN ?_ _ | refine blk_drew ?_ | refine blk_alloc ?_ _)); refine blk_far ?_ NB637_670.out _; (with_reducible repeat (first | refine blk_drewN ?_ _ | refine blk_drew ?_ | refine blk_alloc ?_ _)); exact BK637.out⟩, ⟨by (with_reducible repeat (first | refine blk_drewN ?_ _ | refine blk_drew ?_ | refine blk_alloc ?_ _)); refine blk_far ?_ NB644_670.out _; (with_reducible repeat (first | refine blk_drewN ?_ _ | refine blk_drew ?_ | refine blk_alloc ?_ _)); refine blk_far ?_ NB644_670.out _; (with_reducible repeat (first | refine blk_drewN ?_ _ | refine blk_drew ?_ | refine blk_alloc ?_ _)); refine blk_far ?_ NB644_670.out _; (with_reducible repeat (first | refine blk_drewN ?_ _ | refine blk_drew ?_ | refine blk_alloc ?_ _)); exact BK644.out⟩, ⟨by (with_reducible repeat (first | refine blk_drewN ?_ _ | refine blk_drew ?_ | refine blk_alloc ?_ _)); refine blk_far ?_ NB656_670.out _; (with_reducible repeat (first | refine blk_drewN ?_ _ | refine blk_drew ?_ | refine blk_alloc ?_ _)); refine blk_far ?_ NB656_670.out _; (with_reducible repeat (first | refine blk_drewN ?_ _ | refine blk_drew ?_ | refine blk_alloc ?_ _)); refine blk_far ?_ NB656_670.out _; (with_reducible repeat (first | refine blk_drewN ?_ _ | refine blk_drew ?_ | refine blk_alloc ?_ _)); exact BK656.out⟩, ⟨by (with_reducible repeat (first | refine blk_drewN ?_ _ | refine blk_drew ?_ | refine blk_alloc ?_ _)); refine blk_far ?_ NB663_670.out _; (with_reducible repeat (first | refine blk_drewN ?_ _ | refine blk_drew ?_ | refine blk_alloc ?_ _)); refine blk_far ?_ NB663_670.out _; (with_reducible repeat (first | refine blk_drewN ?_ _ | refine blk_drew ?_ | refine blk_alloc ?_ _)); refine blk_far ?_ NB663_670.out _; (with_reducible repeat (first | refine blk_drewN ?_ _ | refine blk_drew ?_ | refine blk_alloc ?_ _)); exact BK663.out⟩, ⟨by (with_reducible repeat (first | refine blk_drewN ?_ _ | refine blk_drew ?_ | refine blk_alloc ?_ _)); refine blk_put (cs := #[.int .i64 t664, .int .i64 t665, .slice none 0 0]) ?_ 2 _ rfl; (with_reducible repeat (first | refine blk_drewN ?_ _ | refine blk_drew ?_ | refine blk_alloc ?_ _)); refine blk_put (cs := #[.int .i64 t664, .int .i64 0, .slice none 0 0]) ?_ 1 _ rfl; (with_reducible repeat (first | refine blk_drewN ?_ _ | refine blk_drew ?_ | refine blk_alloc ?_ _)); refine blk_put (cs := #[.int .i64 0, .int .i64 0, .slice none 0 0]) ?_ 0 _ rfl; (with_reducible repeat (first | refine blk_drewN ?_ _ | refine blk_drew ?_ | refine blk_alloc ?_ _)); exact BK670.out⟩, ⟨nC HB⟩⟩
        · rw [if_neg c107] at H
          have c107b0 : (t655 == 0) = false := beq_eq_false_iff_ne.mpr c107
          have c107b1 : (t655 != 0) = true := bne_iff_ne.mpr c107
          (first | rw [c107b0] | (simp only [i64_w, i32_w]; rw [c107b0]) | skip)
          have H' := Aside0.mk H
          clear H
          go_wp2
          go_meet
          case rel => exact ⟨_, (false), (by first | rfl | (simp; done) | (simp [*]; done)), H', ⟨by have := HJ7.out; first | omega | exact Nat.le_refl _⟩, ⟨by (with_reducible repeat (first | apply Kd.R_alloc | apply Kd.R_drewN | apply Kd.R_drew)); exact Kd.R_mono (Kd.R_far (p := ⟨gb670, 2, none⟩) (Kd.R_far (p := ⟨gb670, 1, none⟩) (Kd.R_far (p := ⟨gb670, 0, none⟩) (Kd.R_types HO_638002.out BK670.out (by decide)) (fun _ hk => hk.2) (.int .i64 t664)) (fun _ hk => hk.2) (.int .i64 t665)) (fun _ hk => hk.2) (.slice Ao106 t666.length co106)) (fun _ hk => ⟨hk.1.1.1.1, ⟨hk.1.1.1.2, ⟨hk.1.1.2, hk.1.2⟩⟩⟩)⟩, ⟨by (with_reducible repeat (first | apply Kd.R_alloc | apply Kd.R_drewN | apply Kd.R_drew)); exact Kd.R_mono (Kd.R_far (p := ⟨gb670, 2, none⟩) (Kd.R_far (p := ⟨gb670, 1, none⟩) (Kd.R_far (p := ⟨gb670, 0, none⟩) (Kd.R_types HO_645002.out BK670.out (by decide)) (fun _ hk => hk.2) (.int .i64 t664)) (fun _ hk => hk.2) (.int .i64 t665)) (fun _ hk => hk.2) (.slice Ao106 t666.length co106)) (fun _ hk => ⟨hk.1.1.1.1, ⟨hk.1.1.1.2, ⟨hk.1.1.2, hk.1.2⟩⟩⟩)⟩, ⟨by (with_reducible repeat (first | apply Kd.R_alloc | apply Kd.R_drewN | apply Kd.R_drew)); exact Kd.R_mono (Kd.R_far (p := ⟨gb670, 2, none⟩) (Kd.R_far (p := ⟨gb670, 1, none⟩) (Kd.R_far (p := ⟨gb670, 0, none⟩) (Kd.R_types HO654.out BK670.out (by decide)) (fun _ hk => hk.2) (.int .i64 t664)) (fun _ hk => hk.2) (.int .i64 t665)) (fun _ hk => hk.2) (.slice Ao106 t666.length co106)) (fun _ hk => ⟨hk.1.1.1.1.2, ⟨hk.1.1.1.2, ⟨hk.1.1.2, hk.1.2⟩⟩⟩)⟩, ⟨by (with_reducible repeat (first | apply Kd.R_alloc | apply Kd.R_drewN | apply Kd.R_drew)); exact Kd.R_mono (Kd.R_far (p := ⟨gb670, 2, none⟩) (Kd.R_far (p := ⟨gb670, 1, none⟩) (Kd.R_far (p := ⟨gb670, 0, none⟩) (Kd.R_types HO661.out BK670.out (by decide)) (fun _ hk => hk.2) (.int .i64 t664)) (fun _ hk => hk.2) (.int .i64 t665)) (fun _ hk => hk.2) (.slice Ao106 t666.length co106)) (fun _ hk => ⟨hk.1.1.1.1.2, ⟨hk.1.1.1.2, ⟨hk.1.1.2, hk.1.2⟩⟩⟩)⟩, ⟨by (with_reducible repeat (first | apply Kd.R_alloc | apply Kd.R_drewN | apply Kd.R_drew)); exact Kd.R_mono (Kd.R_far (p := ⟨gb670, 2, none⟩) (Kd.R_far (p := ⟨gb670, 1, none⟩) (Kd.R_far (p := ⟨gb670, 0, none⟩) (Kd.R_types HO668.out BK670.out (by decide)) (fun _ hk => hk.2) (.int .i64 t664)) (fun _ hk => hk.2) (.int .i64 t665)) (fun _ hk => hk.2) (.slice Ao106 t666.length co106)) (fun _ hk => ⟨hk.1.1.1.1.2, ⟨hk.1.1.1.2, ⟨hk.1.1.2, hk.1.2⟩⟩⟩)⟩, ⟨by (with_reducible repeat (first | refine blk_drewN ?_ _ | refine blk_drew ?_ | refine blk_alloc ?_ _)); refine blk_far ?_ NB628_670.out _; (with_reducible repeat (first | refine blk_drewN ?_ _ | refine blk_drew ?_ | refine blk_alloc ?_ _)); refine blk_far ?_ NB628_670.out _; (with_reducible repeat (first | refine blk_drewN ?_ _ | refine blk_drew ?_ | refine blk_alloc ?_ _)); refine blk_far ?_ NB628_670.out _; (with_reducible repeat (first | refine blk_drewN ?_ _ | refine blk_drew ?_ | refine blk_alloc ?_ _)); exact BK628.out⟩, ⟨by (with_reducible repeat (first | refine blk_drewN ?_ _ | refine blk_drew ?_ | refine blk_alloc ?_ _)); refine blk_far ?_ NB629_670.out _; (with_reducible repeat (first | refine blk_drewN ?_ _ | refine blk_drew ?_ | refine blk_alloc ?_ _)); refine blk_far ?_ NB629_670.out _; (with_reducible repeat (first | refine blk_drewN ?_ _ | refine blk_drew ?_ | refine blk_alloc ?_ _)); refine blk_far ?_ NB629_670.out _; (with_reducible repeat (first | refine blk_drewN ?_ _ | refine blk_drew ?_ | refine blk_alloc ?_ _)); exact BK629.out⟩, ⟨by (with_reducible repeat (first | refine blk_drewN ?_ _ | refine blk_drew ?_ | refine blk_alloc ?_ _)); refine blk_far ?_ NB630_670.out _; (with_reducible repeat (first | refine blk_drewN ?_ _ | refine blk_drew ?_ | refine blk_alloc ?_ _)); refine blk_far ?_ NB630_670.out _; (with_reducible repeat (first | refine blk_drewN ?_ _ | refine blk_drew ?_ | refine blk_alloc ?_ _)); refine blk_far ?_ NB630_670.out _; (with_reducible repeat (first | refine blk_drewN ?_ _ | refine blk_drew ?_ | refine blk_alloc ?_ _)); exact BK630.out⟩, ⟨by (with_reducible repeat (first | refine blk_drewN ?_ _ | refine blk_drew ?_ | refine blk_alloc ?_ _)); refine blk_far ?_ NB637_670.out _; (with_reducible repeat (first | refine blk_drewN ?_ _ | refine blk_drew ?_ | refine blk_alloc ?_ _)); refine blk_far ?_ NB637_670.out _; (with_reducible repeat (first | refine blk_drewN ?_ _ | refine blk_drew ?_ | refine blk_alloc ?_ _)); refine blk_far ?_ NB637_670.out _; (with_reducible repeat (first | refine blk_drewN ?_ _ | refine blk_drew ?_ | refine blk_alloc ?_ _)); exact BK637.out⟩, ⟨by (with_reducible repeat (first | refine blk_drewN ?_ _ | refine blk_drew ?_ | refine blk_alloc ?_ _)); refine blk_far ?_ NB644_670.out _; (with_reducible repeat (first | refine blk_drewN ?_ _ | refine blk_drew ?_ | refine blk_alloc ?_ _)); refine blk_far ?_ NB644_670.out _; (with_reducible repeat (first | refine blk_drewN ?_ _ | refine blk_drew ?_ | refine blk_alloc ?_ _)); refine blk_far ?_ NB644_670.out _; (with_reducible repeat (first | refine blk_drewN ?_ _ | refine blk_drew ?_ | refine blk_alloc ?_ _)); exact BK644.out⟩, ⟨by (with_reducible repeat (first | refine blk_drewN ?_ _ | refine blk_drew ?_ | refine blk_alloc ?_ _)); refine blk_far ?_ NB656_670.out _; (with_reducible repeat (first | refine blk_drewN ?_ _ | refine blk_drew ?_ | refine blk_alloc ?_ _)); refine blk_far ?_ NB656_670.out _; (with_reducible repeat (first | refine blk_drewN ?_ _ | refine blk_drew ?_ | refine blk_alloc ?_ _)); refine blk_far ?_ NB656_670.out _; (with_reducible repeat (first | refine blk_drewN ?_ _ | refine blk_drew ?_ | refine blk_alloc ?_ _)); exact BK656.out⟩, ⟨by (with_reducible repeat (first | refine blk_drewN ?_ _ | refine blk_drew ?_ | refine blk_alloc ?_ _)); refine blk_far ?_ NB663_670.out _; (with_reducible repeat (first | refine blk_drewN ?_ _ | refine blk_drew ?_ | refine blk_alloc ?_ _)); refine blk_far ?_ NB663_670.out _; (with_reducible repeat (first | refine blk_drewN ?_ _ | refine blk_drew ?_ | refine blk_alloc ?_ _)); refine blk_far ?_ NB663_670.out _; (with_reducible repeat (first | refine blk_drewN ?_ _ | refine blk_drew ?_ | refine blk_alloc ?_ _)); exact BK663.out⟩, ⟨by (with_reducible repeat (first | refine blk_drewN ?_ _ | refine blk_drew ?_ | refine blk_alloc ?_ _)); refine blk_put (cs := #[.int .i64 t664, .int .i64 t665, .slice none 0 0]) ?_ 2 _ rfl; (with_reducible repeat (first | refine blk_drewN ?_ _ | refine blk_drew ?_ | refine blk_alloc ?_ _)); refine blk_put (cs := #[.int .i64 t664, .int .i64 0, .slice none 0 0]) ?_ 1 _ rfl; (with_reducible repeat (first | refine blk_drewN ?_ _ | refine blk_drew ?_ | refine blk_alloc ?_ _)); refine blk_put (cs := #[.int .i64 0, .int .i64 0, .slice none 0 0]) ?_ 0 _ rfl; (with_reducible repeat (first | refine blk_drewN ?_ _ | refine blk_drew ?_ | refine blk_alloc ?_ _)); exact BK670.out⟩, ⟨nC HB⟩⟩
       case rest =>
        as_aux_lemma =>
        clear HC61
        try clear c1
        try clear c2
        try clear p2
        try clear c3
        try clear c4
        try clear c5
        try clear c6
        try clear c7
        try clear c8
        try clear c9
        try clear c10
        try clear c11
        try clear c12
        try clear c13
        try clear c14
        try clear c15
        try clear c19
        try clear c20
        try clear c21
        try clear c28
        try clear c29
        try clear c30
        try clear c31
        try clear c35
        try clear c36
        try clear c37
        try clear c38
        try clear c39
        try clear c41
        try clear c42
        try clear c43
        try clear c46
        try clear c47
        try clear c48
        try clear c49
        try clear c51
        try clear c52
        try clear c53
        try clear c56
        try clear c57
        try clear c57b0
        try clear c57b1
        try clear c62
        try clear c63
        try clear c64
        try clear c65
        try clear c67
        try clear c68
        try clear c69
        try clear c73
        try clear c74
        try clear c75
        try clear c76
        try clear c77
        try clear c80
        try clear c81
        try clear c86
        try clear c87
        try clear c88
        try clear c89
        try clear c90
        try clear c91
        try clear c94
        try clear c98
        try clear c99
        try clear c100
        try clear c101
        try clear c102
        try clear c103
        try clear c104
        try clear c107
        try clear c107b0
        try clear c107b1
        try clear c108
        try clear c108b0
        try clear c108b1
        try clear c109
        try clear c109b0
        try clear c109b1
        try clear c111
        try clear c112
        try clear c113
        try clear c114
        try clear c115
        try clear c116
        try clear c117
        try clear c119
        try clear c120
        try clear c121
        try clear c122
        try clear c123
        try clear c124
        try clear hcz105_0
        try clear hcz105_1
        try clear hcz105_2
        try clear hcz118_0
        try clear hcz118_1
        try clear hcz118_2
        try clear hcz125_0
        try clear hcz125_1
        try clear hcz125_2
        try clear hcz14_0
        try clear hcz14_1
        try clear hcz14_2
        try clear hcz16_0
        try clear hcz16_1
        try clear hcz16_2
        try clear hcz22_0
        try clear hcz22_1
        try clear hcz22_2
        try clear hcz24_0
        try clear hcz24_1
        try clear hcz24_2
        try clear hcz25_0
        try clear hcz25_1
        try clear hcz25_2
        try clear hcz32_0
        try clear hcz32_1
        try clear hcz32_2
        try clear hcz40_0
        try clear hcz40_1
        try clear hcz40_2
        try clear hcz44_0
        try clear hcz44_1
        try clear hcz44_2
        try clear hcz50_0
        try clear hcz50_1
        try clear hcz50_2
        try clear hcz54_0
        try clear hcz54_1
        try clear hcz54_2
        try clear hcz66_0
        try clear hcz66_1
        try clear hcz66_2
        try clear hcz70_0
        try clear hcz70_1
        try clear hcz70_2
        try clear hcz78_0
        try clear hcz78_1
        try clear hcz78_2
        try clear hcz82_0
        try clear hcz82_1
        try clear hcz82_2
        try clear hcz83_0
        try clear hcz83_1
        try clear hcz83_2
        try clear hcz92_0
        try clear hcz92_1
        try clear hcz92_2
        try clear hcz95_0
        try clear hcz95_1
        try clear hcz95_2
        try clear hfz105_0
        try clear hfz105_1
        try clear hfz105_2
        try clear hfz118_0
        try clear hfz118_1
        try clear hfz118_2
        try clear hfz125_0
        try clear hfz125_1
        try clear hfz125_2
        try clear hfz14_0
        try clear hfz14_1
        try clear hfz14_2
        try clear hfz16_0
        try clear hfz16_1
        try clear hfz16_2
        try clear hfz22_0
        try clear hfz22_1
        try clear hfz22_2
        try clear hfz24_0
        try clear hfz24_1
        try clear hfz24_2
        try clear hfz25_0
        try clear hfz25_1
        try clear hfz25_2
        try clear hfz32_0
        try clear hfz32_1
        try clear hfz32_2
        try clear hfz40_0
        try clear hfz40_1
        try clear hfz40_2
        try clear hfz44_0
        try clear hfz44_1
        try clear hfz44_2
        try clear hfz50_0
        try clear hfz50_1
        try clear hfz50_2
        try clear hfz54_0
        try clear hfz54_1
        try clear hfz54_2
        try clear hfz66_0
        try clear hfz66_1
        try clear hfz66_2
        try clear hfz70_0
        try clear hfz70_1
        try clear hfz70_2
        try clear hfz78_0
        try clear hfz78_1
        try clear hfz78_2
        try clear hfz82_0
        try clear hfz82_1
        try clear hfz82_2
        try clear hfz83_0
        try clear hfz83_1
        try clear hfz83_2
        try clear hfz92_0
        try clear hfz92_1
        try clear hfz92_2
        try clear hfz95_0
        try clear hfz95_1
        try clear hfz95_2
        try clear p2
        obtain ⟨kq, x101_60, rfl, HA, HJ60, HO_638002, HO_645002, HO_657002, HO_664002, HO_671002, BK628, BK629, BK630, BK637, BK644, BK656, BK663, BK670, HB⟩ := hcut
        cases kq with
        | zero => exact absurd HA.out (by simp [kimberlitelaw03_CurveJoins.j1])
        | succ kj60 =>
         have H := HA.out
         clear HA
         simp only [kimberlitelaw03_CurveJoins.j1] at H
         by_cases c127 : x101_60 = true
         · subst c127
           have H1 : (some false) = some r := by rw [if_pos rfl] at H; exact H
           clear H
           have H := H1
           clear H1
           obtain rfl := Option.some.inj H
           go_wp2
           go_ret
           exact ⟨by first | rfl | (simp [errW_none, errW_some] <;> rfl) | (simp [*, errW_none, errW_some] <;> rfl), nC HB⟩
         · replace c127 := Bool.eq_false_iff.mpr c127
           subst c127
           have H1 : ((kimberlitelaw03_at.f a0_0 a0_1 l0_2 a3).bind fun bt672 => ((kimberlitelaw03_at.f a1_0 a1_1 l1_2 a4).bind fun bt674 => (if bt672.2 = true then (kimberlitelaw03_CurveJoins.j2 kj60 a3 a4 bt672.1 bt674.1 (!bt674.2) a0_0 a0_1 l0_2 a1_0 a1_1 l1_2 t631 t632 t633) else (kimberlitelaw03_CurveJoins.j2 kj60 a3 a4 bt672.1 bt674.1 true a0_0 a0_1 l0_2 a1_0 a1_1 l1_2 t631 t632 t633)))) = some r := by rw [if_neg (show ¬ (false = true) by decide)] at H; exact H
           clear H
           have H := H1
           clear H1
           replace H := Option.bind_eq_some_iff.mp H
           obtain ⟨⟨t672, t673⟩, A1280, H⟩ := H
           replace H : ((kimberlitelaw03_at.f a1_0 a1_1 l1_2 a4).bind fun bt674 => (if t673 = true then (kimberlitelaw03_CurveJoins.j2 kj60 a3 a4 t672 bt674.1 (!bt674.2) a0_0 a0_1 l0_2 a1_0 a1_1 l1_2 t631 t632 t633) else (kimberlitelaw03_CurveJoins.j2 kj60 a3 a4 t672 bt674.1 true a0_0 a0_1 l0_2 a1_0 a1_1 l1_2 t631 t632 t633))) = some r := H
           have A128 := Aside0.mk A1280
           clear A1280
           replace H := Option.bind_eq_some_iff.mp H
           obtain ⟨⟨t674, t675⟩, A1290, H⟩ := H
           replace H : (if t673 = true then (kimberlitelaw03_CurveJoins.j2 kj60 a3 a4 t672 t674 (!t675) a0_0 a0_1 l0_2 a1_0 a1_1 l1_2 t631 t632 t633) else (kimberlitelaw03_CurveJoins.j2 kj60 a3 a4 t672 t674 true a0_0 a0_1 l0_2 a1_0 a1_1 l1_2 t631 t632 t633)) = some r := H
           have A129 := Aside0.mk A1290
           clear A1290
           have HC130 := Aside0.mk H
           clear H
           have hnb131 := NB628_629.out
           have hnc131 := NB629_628.out
           have hnb132 := NB628_630.out
           have hnc132 := NB630_628.out
           have hnb133 := NB628_637.out
           have hnc133 := NB637_628.out
           have hnb134 := NB628_644.out
           have hnc134 := NB644_628.out
           have hnb135 := NB628_656.out
           have hnc135 := NB656_628.out
           have hnb136 := NB628_663.out
           have hnc136 := NB663_628.out
           have hnb137 := NB628_670.out
           have hnc137 := NB670_628.out
           have hcz138_0 : wc.cell? ⟨gb628, 0, none⟩ = some (.int .i64 a0_0) := (blk_cell BK628.out 0).trans rfl
           have hcz138_1 : wc.cell? ⟨gb628, 1, none⟩ = some (.int .i64 a0_1) := (blk_cell BK628.out 1).trans rfl
           have hcz138_2 : wc.cell? ⟨gb628, 2, none⟩ = some (.slice A0_2 l0_2.length c0_2) := (blk_cell BK628.out 2).trans rfl
           have hfz138_0 := blk_frozen BK628.out 0
           have hfz138_1 := blk_frozen BK628.out 1
           have hfz138_2 := blk_frozen BK628.out 2
           go_upto_region 14 with (first | ((with_reducible refine gate_callee (f := 18) rfl ?_); refine goesL_ (some 105) rfl rfl Try.func18 (by kernel_rfl) rfl #[.agg #[.int .i64 a0_0, .int .i64 a0_1, .slice A0_2 l0_2.length c0_2], .int .i64 a3] rfl (by (try simp only [List.map_toArray, List.map_cons, List.map_nil]); first | done | rfl | (simp only [List.length_drop, List.length_take]; rfl)) ?_; (with_reducible refine (kimberlitelaw03_at.calls a0_0 a0_1 _ _ l0_2 a3 t672 t673 _ ?side1 ?side2 A128.out).mono ?_); (case side1 => repeat (first | exact (Kd.C_below HR0_2.out HB.out) | (with_reducible refine Kd.C_alloc ?_ _) | (with_reducible refine Kd.C_drewN ?_ _) | (with_reducible refine Kd.C_drew ?_))); (case side2 => exact HC0_2.out); rintro e w139 ⟨rfl, hb⟩; refine ⟨_, rfl, ?_⟩; have n0_ := Aside0.mk (Kd.R_below (nR HO_638002) hb); have n1_ := Aside0.mk (Kd.R_below (nR HO_645002) hb); have n2_ := Aside0.mk (Kd.R_below (nR HO_657002) hb); have n3_ := Aside0.mk (Kd.R_below (nR HO_664002) hb); have n4_ := Aside0.mk (Kd.R_below (nR HO_671002) hb); have n5_ := Aside0.mk (nB BK628 hb); have n6_ := Aside0.mk (nB BK629 hb); have n7_ := Aside0.mk (nB BK630 hb); have n8_ := Aside0.mk (nB BK637 hb); have n9_ := Aside0.mk (nB BK644 hb); have n10_ := Aside0.mk (nB BK656 hb); have n11_ := Aside0.mk (nB BK663 hb); have n12_ := Aside0.mk (nB BK670 hb); have n13_ := Aside0.mk (below_step (nC HB) hb); clear HO_638002; clear HO_645002; clear HO_657002; clear HO_664002; clear HO_671002; clear BK628; clear BK629; clear BK630; clear BK637; clear BK644; clear BK656; clear BK663; clear BK670; clear HB; have HO_638002 := n0_; have HO_645002 := n1_; have HO_657002 := n2_; have HO_664002 := n3_; have HO_671002 := n4_; have BK628 := n5_; have BK629 := n6_; have BK630 := n7_; have BK637 := n8_; have BK644 := n9_; have BK656 := n10_; have BK663 := n11_; have BK670 := n12_; have HB := n13_; clear n0_ n1_ n2_ n3_ n4_ n5_ n6_ n7_ n8_ n9_ n10_ n11_ n12_ n13_; (try clear hb); (try clear hb2); (try clear hk); (try clear hi); have hnb140 := NB629_630.out; have hnc140 := NB630_629.out; have hnb141 := NB629_637.out; have hnc141 := NB637_629.out; have hnb142 := NB629_644.out; have hnc142 := NB644_629.out; have hnb143 := NB629_656.out; have hnc143 := NB656_629.out; have hnb144 := NB629_663.out; have hnc144 := NB663_629.out; have hnb145 := NB629_670.out; have hnc145 := NB670_629.out; have hcz146_0 : w139.cell? ⟨gb629, 0, none⟩ = some (.int .i64 a1_0) := (blk_cell BK629.out 0).trans rfl; have hcz146_1 : w139.cell? ⟨gb629, 1, none⟩ = some (.int .i64 a1_1) := (blk_cell BK629.out 1).trans rfl; have hcz146_2 : w139.cell? ⟨gb629, 2, none⟩ = some (.slice A1_2 l1_2.length c1_2) := (blk_cell BK629.out 2).trans rfl; have hfz146_0 := blk_frozen BK629.out 0; have hfz146_1 := blk_frozen BK629.out 1; have hfz146_2 := blk_frozen BK629.out 2) | ((with_reducible refine gate_callee (f := 18) rfl ?_); refine goesL_ (some 111) rfl rfl Try.func18 (by kernel_rfl) rfl #[.agg #[.int .i64 a1_0, .int .i64 a1_1, .slice A1_2 l1_2.length c1_2], .int .i64 a4] rfl (by (try simp only [List.map_toArray, List.map_cons, List.map_nil]); first | done | rfl | (simp only [List.length_drop, List.length_take]; rfl)) ?_; (with_reducible refine (kimberlitelaw03_at.calls a1_0 a1_1 _ _ l1_2 a4 t674 t675 _ ?side1 ?side2 A129.out).mono ?_); (case side1 => repeat (first | exact (Kd.C_below HR1_2.out HB.out) | (with_reducible refine Kd.C_alloc ?_ _) | (with_reducible refine Kd.C_drewN ?_ _) | (with_reducible refine Kd.C_drew ?_))); (case side2 => exact HC1_2.out); rintro e w147 ⟨rfl, hb⟩; refine ⟨_, rfl, ?_⟩; have n0_ := Aside0.mk (Kd.R_below (nR HO_638002) hb); have n1_ := Aside0.mk (Kd.R_below (nR HO_645002) hb); have n2_ := Aside0.mk (Kd.R_below (nR HO_657002) hb); have n3_ := Aside0.mk (Kd.R_below (nR HO_664002) hb); have n4_ := Aside0.mk (Kd.R_below (nR HO_671002) hb); have n5_ := Aside0.mk (nB BK628 hb); have n6_ := Aside0.mk (nB BK629 hb); have n7_ := Aside0.mk (nB BK630 hb); have n8_ := Aside0.mk (nB BK637 hb); have n9_ := Aside0.mk (nB BK644 hb); have n10_ := Aside0.mk (nB BK656 hb); have n11_ := Aside0.mk (nB BK663 hb); have n12_ := Aside0.mk (nB BK670 hb); have n13_ := Aside0.mk (below_step (nC HB) hb); clear HO_638002; clear HO_645002; clear HO_657002; clear HO_664002; clear HO_671002; clear BK628; clear BK629; clear BK630; clear BK637; clear BK644; clear BK656; clear BK663; clear BK670; clear HB; have HO_638002 := n0_; have HO_645002 := n1_; have HO_657002 := n2_; have HO_664002 := n3_; have HO_671002 := n4_; have BK628 := n5_; have BK629 := n6_; have BK630 := n7_; have BK637 := n8_; have BK644 := n9_; have BK656 := n10_; have BK663 := n11_; have BK670 := n12_; have HB := n13_; clear n0_ n1_ n2_ n3_ n4_ n5_ n6_ n7_ n8_ n9_ n10_ n11_ n12_ n13_; (try clear hb); (try clear hb2); (try clear hk); (try clear hi)))
           (try simp only [Act.put, List.setIfInBounds_toArray, List.set_cons_zero, List.set_cons_succ])
           go_cut [119] (fun v119 wc => ∃ (kq : Nat) (x119_129 : Bool), v119 = .bool x119_129 ∧ Aside0 (kimberlitelaw03_CurveJoins.j2 kq a3 a4 t672 t674 x119_129 a0_0 a0_1 l0_2 a1_0 a1_1 l1_2 t631 t632 t633 = some r) ∧ Aside0 (kq ≤ kj60) ∧ Aside0 (Kd.R (Kd.int .i64) 3 wc w.heap.size (fun k_ => some k_ ≠ ((.slice Ao33 t640.length co33) : Value).ownBlock ∧ some k_ ≠ ((.slice Ao79 t652.length co79) : Value).ownBlock ∧ some k_ ≠ ((.slice Ao93 t659.length co93) : Value).ownBlock ∧ some k_ ≠ ((.slice Ao106 t666.length co106) : Value).ownBlock) (.slice Ao23 t633.length co23) t633) ∧ Aside0 (Kd.R (Kd.int .i64) 3 wc w.heap.size (fun k_ => some k_ ≠ ((.slice Ao23 t633.length co23) : Value).ownBlock ∧ some k_ ≠ ((.slice Ao79 t652.length co79) : Value).ownBlock ∧ some k_ ≠ ((.slice Ao93 t659.length co93) : Value).ownBlock ∧ some k_ ≠ ((.slice Ao106 t666.length co106) : Value).ownBlock) (.slice Ao33 t640.length co33) t640) ∧ Aside0 (Kd.R (Kd.int .i64) 3 wc w.heap.size (fun k_ => some k_ ≠ ((.slice Ao23 t633.length co23) : Value).ownBlock ∧ some k_ ≠ ((.slice Ao33 t640.length co33) : Value).ownBlock ∧ some k_ ≠ ((.slice Ao93 t659.length co93) : Value).ownBlock ∧ some k_ ≠ ((.slice Ao106 t666.length co106) : Value).ownBlock) (.slice Ao79 t652.length co79) t652) ∧ Aside0 (Kd.R (Kd.int .i64) 3 wc w.heap.size (fun k_ => some k_ ≠ ((.slice Ao23 t633.length co23) : Value).ownBlock ∧ some k_ ≠ ((.slice Ao33 t640.length co33) : Value).ownBlock ∧ some k_ ≠ ((.slice Ao79 t652.length co79) : Value).ownBlock ∧ some k_ ≠ ((.slice Ao106 t666.length co106) : Value).ownBlock) (.slice Ao93 t659.length co93) t659) ∧ Aside0 (Kd.R (Kd.int .i64) 3 wc w.heap.size (fun k_ => some k_ ≠ ((.slice Ao23 t633.length co23) : Value).ownBlock ∧ some k_ ≠ ((.slice Ao33 t640.length co33) : Value).ownBlock ∧ some k_ ≠ ((.slice Ao79 t652.length co79) : Value).ownBlock ∧ some k_ ≠ ((.slice Ao93 t659.length co93) : Value).ownBlock) (.slice Ao106 t666.length co106) t666) ∧ Aside0 (wc.heap[gb628]? = some (.cells #[.int .i64 a0_0, .int .i64 a0_1, (.slice A0_2 l0_2.length c0_2)] 24 (0, 0))) ∧ Aside0 (wc.heap[gb629]? = some (.cells #[.int .i64 a1_0, .int .i64 a1_1, (.slice A1_2 l1_2.length c1_2)] 24 (0, 0))) ∧ Aside0 (wc.heap[gb630]? = some (.cells #[.int .i64 a2_0, .int .i64 a2_1, (.slice A2_2 l2_2.length c2_2)] 24 (0, 0))) ∧ Aside0 (wc.heap[gb637]? = some (.cells #[.int .i64 t631, .int .i64 t632, (.slice Ao23 t633.length co23)] 24 (0, 0))) ∧ Aside0 (wc.heap[gb644]? = some (.cells #[.int .i64 t638, .int .i64 t639, (.slice Ao33 t640.length co33)] 24 (0, 0))) ∧ Aside0 (wc.heap[gb656]? = some (.cells #[.int .i64 t650, .int .i64 t651, (.slice Ao79 t652.length co79)] 24 (0, 0))) ∧ Aside0 (wc.heap[gb663]? = some (.cells #[.int .i64 t657, .int .i64 t658, (.slice Ao93 t659.length co93)] 24 (0, 0))) ∧ Aside0 (wc.heap[gb670]? = some (.cells #[.int .i64 t664, .int .i64 t665, (.slice Ao106 t666.length co106)] 24 (0, 0))) ∧ Aside0 (Below w.heap.size w wc))
           case first =>
            as_aux_lemma =>
            have H := HC130.out
            clear HC130
            by_cases c148 : t673 = true
            · subst c148
              have H1 : (kimberlitelaw03_CurveJoins.j2 kj60 a3 a4 t672 t674 (!t675) a0_0 a0_1 l0_2 a1_0 a1_1 l1_2 t631 t632 t633) = some r := by rw [if_pos rfl] at H; exact H
              clear H
              have H := H1
              clear H1
              have H' := Aside0.mk H
              clear H
              go_wp2
              go_meet
              case rel => exact ⟨_, (!t675), (by first | rfl | (simp; done) | (simp [*]; done)), H', ⟨by have := HJ7.out; have := HJ60.out; first | omega | exact Nat.le_refl _⟩, ⟨nR HO_638002⟩, ⟨nR HO_645002⟩, ⟨nR HO_657002⟩, ⟨nR HO_664002⟩, ⟨nR HO_671002⟩, ⟨nK BK628⟩, ⟨nK BK629⟩, ⟨nK BK630⟩, ⟨nK BK637⟩, ⟨nK BK644⟩, ⟨nK BK656⟩, ⟨nK BK663⟩, ⟨nK BK670⟩, ⟨nC HB⟩⟩
            · replace c148 := Bool.eq_false_iff.mpr c148
              subst c148
              have H1 : (kimberlitelaw03_CurveJoins.j2 kj60 a3 a4 t672 t674 true a0_0 a0_1 l0_2 a1_0 a1_1 l1_2 t631 t632 t633) = some r := by rw [if_neg (show ¬ (false = true) by decide)] at H; exact H
              clear H
              have H := H1
              clear H1
              have H' := Aside0.mk H
              clear H
              go_wp2
              go_meet
              case rel => exact ⟨_, (true), (by first | rfl | (simp; done) | (simp [*]; done)), H', ⟨by have := HJ7.out; have := HJ60.out; first | omega | exact Nat.le_refl _⟩, ⟨nR HO_638002⟩, ⟨nR HO_645002⟩, ⟨nR HO_657002⟩, ⟨nR HO_664002⟩, ⟨nR HO_671002⟩, ⟨nK BK628⟩, ⟨nK BK629⟩, ⟨nK BK630⟩, ⟨nK BK637⟩, ⟨nK BK644⟩, ⟨nK BK656⟩, ⟨nK BK663⟩, ⟨nK BK670⟩, ⟨nC HB⟩⟩
           case rest =>
            as_aux_lemma =>
            clear HC130
            try clear c1
            try clear c2
            try clear p2
            try clear c3
            try clear c4
            try clear c5
            try clear c6
            try clear c7
            try clear c8
            try clear c9
            try clear c10
            try clear c11
            try clear c12
            try clear c13
            try clear c14
            try clear c15
            try clear c18
            try clear c19
            try clear c20
            try clear c21
            try clear c28
            try clear c29
            try clear c30
            try clear c31
            try clear c35
            try clear c36
            try clear c37
            try clear c38
            try clear c39
            try clear c41
            try clear c42
            try clear c43
            try clear c46
            try clear c47
            try clear c48
            try clear c49
            try clear c51
            try clear c52
            try clear c53
            try clear c56
            try clear c57
            try clear c57b0
            try clear c57b1
            try clear c62
            try clear c63
            try clear c64
            try clear c65
            try clear c67
            try clear c68
            try clear c69
            try clear c73
            try clear c74
            try clear c75
            try clear c76
            try clear c77
            try clear c80
            try clear c81
            try clear c86
            try clear c87
            try clear c88
            try clear c89
            try clear c90
            try clear c91
            try clear c94
            try clear c98
            try clear c99
            try clear c100
            try clear c101
            try clear c102
            try clear c103
            try clear c104
            try clear c107
            try clear c107b0
            try clear c107b1
            try clear c108
            try clear c108b0
            try clear c108b1
            try clear c109
            try clear c109b0
            try clear c109b1
            try clear c111
            try clear c112
            try clear c113
            try clear c114
            try clear c115
            try clear c116
            try clear c117
            try clear c119
            try clear c120
            try clear c121
            try clear c122
            try clear c123
            try clear c124
            try clear c127
            try clear c131
            try clear c132
            try clear c133
            try clear c134
            try clear c135
            try clear c136
            try clear c137
            try clear c140
            try clear c141
            try clear c142
            try clear c143
            try clear c144
            try clear c145
            try clear c148
            try clear hcz105_0
            try clear hcz105_1
            try clear hcz105_2
            try clear hcz118_0
            try clear hcz118_1
            try clear hcz118_2
            try clear hcz125_0
            try clear hcz125_1
            try clear hcz125_2
            try clear hcz138_0
            try clear hcz138_1
            try clear hcz138_2
            try clear hcz146_0
            try clear hcz146_1
            try clear hcz146_2
            try clear hcz14_0
            try clear hcz14_1
            try clear hcz14_2
            try clear hcz16_0
            try clear hcz16_1
            try clear hcz16_2
            try clear hcz22_0
            try clear hcz22_1
            try clear hcz22_2
            try clear hcz24_0
            try clear hcz24_1
            try clear hcz24_2
            try clear hcz25_0
            try clear hcz25_1
            try clear hcz25_2
            try clear hcz32_0
            try clear hcz32_1
            try clear hcz32_2
            try clear hcz40_0
            try clear hcz40_1
            try clear hcz40_2
            try clear hcz44_0
            try clear hcz44_1
            try clear hcz44_2
            try clear hcz50_0
            try clear hcz50_1
            try clear hcz50_2
            try clear hcz54_0
            try clear hcz54_1
            try clear hcz54_2
            try clear hcz66_0
            try clear hcz66_1
            try clear hcz66_2
            try clear hcz70_0
            try clear hcz70_1
            try clear hcz70_2
            try clear hcz78_0
            try clear hcz78_1
            try clear hcz78_2
            try clear hcz82_0
            try clear hcz82_1
            try clear hcz82_2
            try clear hcz83_0
            try clear hcz83_1
            try clear hcz83_2
            try clear hcz92_0
            try clear hcz92_1
            try clear hcz92_2
            try clear hcz95_0
            try clear hcz95_1
            try clear hcz95_2
            try clear hfz105_0
            try clear hfz105_1
            try clear hfz105_2
            try clear hfz118_0
            try clear hfz118_1
            try clear hfz118_2
            try clear hfz125_0
            try clear hfz125_1
            try clear hfz125_2
            try clear hfz138_0
            try clear hfz138_1
            try clear hfz138_2
            try clear hfz146_0
            try clear hfz146_1
            try clear hfz146_2
            try clear hfz14_0
            try clear hfz14_1
            try clear hfz14_2
            try clear hfz16_0
            try clear hfz16_1
            try clear hfz16_2
            try clear hfz22_0
            try clear hfz22_1
            try clear hfz22_2
            try clear hfz24_0
            try clear hfz24_1
            try clear hfz24_2
            try clear hfz25_0
            try clear hfz25_1
            try clear hfz25_2
            try clear hfz32_0
            try clear hfz32_1
            try clear hfz32_2
            try clear hfz40_0
            try clear hfz40_1
            try clear hfz40_2
            try clear hfz44_0
            try clear hfz44_1
            try clear hfz44_2
            try clear hfz50_0
            try clear hfz50_1
            try clear hfz50_2
            try clear hfz54_0
            try clear hfz54_1
            try clear hfz54_2
            try clear hfz66_0
            try clear hfz66_1
            try clear hfz66_2
            try clear hfz70_0
            try clear hfz70_1
            try clear hfz70_2
            try clear hfz78_0
            try clear hfz78_1
            try clear hfz78_2
            try clear hfz82_0
            try clear hfz82_1
            try clear hfz82_2
            try clear hfz83_0
            try clear hfz83_1
            try clear hfz83_2
            try clear hfz92_0
            try clear hfz92_1
            try clear hfz92_2
            try clear hfz95_0
            try clear hfz95_1
            try clear hfz95_2
            try clear p2
            obtain ⟨kq, x119_129, rfl, HA, HJ129, HO_638002, HO_645002, HO_657002, HO_664002, HO_671002, BK628, BK629, BK630, BK637, BK644, BK656, BK663, BK670, HB⟩ := hcut
            cases kq with
            | zero => exact absurd HA.out (by simp [kimberlitelaw03_CurveJoins.j2])
            | succ kj129 =>
             have H := HA.out
             clear HA
             simp only [kimberlitelaw03_CurveJoins.j2] at H
             by_cases c149 : x119_129 = true
             · subst c149
               have H1 : ((kimberlitelaw03_alive.f).bind fun t676 => (some t676)) = some r := by rw [if_pos rfl] at H; exact H
               clear H
               have H := H1
               clear H1
               replace H := Option.bind_eq_some_iff.mp H
               obtain ⟨t676, A1500, H⟩ := H
               replace H : (some t676) = some r := H
               have A150 := Aside0.mk A1500
               clear A1500
               obtain rfl := Option.some.inj H
               go_wp2_with (first | ((with_reducible refine gate_callee (f := 17) rfl ?_); refine goesL_ (some 120) rfl rfl Try.func17 (by kernel_rfl) rfl #[] rfl (by (try simp only [List.map_toArray, List.map_cons, List.map_nil]); first | done | rfl | (simp only [List.length_drop, List.length_take]; rfl)) ?_; (with_reducible refine (kimberlitelaw03_alive.calls  t676 _ A150.out).mono ?_); rintro e w151 ⟨rfl, hb⟩; refine ⟨_, rfl, ?_⟩; have n0_ := Aside0.mk (Kd.R_below (nR HO_638002) hb); have n1_ := Aside0.mk (Kd.R_below (nR HO_645002) hb); have n2_ := Aside0.mk (Kd.R_below (nR HO_657002) hb); have n3_ := Aside0.mk (Kd.R_below (nR HO_664002) hb); have n4_ := Aside0.mk (Kd.R_below (nR HO_671002) hb); have n5_ := Aside0.mk (nB BK628 hb); have n6_ := Aside0.mk (nB BK629 hb); have n7_ := Aside0.mk (nB BK630 hb); have n8_ := Aside0.mk (nB BK637 hb); have n9_ := Aside0.mk (nB BK644 hb); have n10_ := Aside0.mk (nB BK656 hb); have n11_ := Aside0.mk (nB BK663 hb); have n12_ := Aside0.mk (nB BK670 hb); have n13_ := Aside0.mk (below_step (nC HB) hb); clear HO_638002; clear HO_645002; clear HO_657002; clear HO_664002; clear HO_671002; clear BK628; clear BK629; clear BK630; clear BK637; clear BK644; clear BK656; clear BK663; clear BK670; clear HB; have HO_638002 := n0_; have HO_645002 := n1_; have HO_657002 := n2_; have HO_664002 := n3_; have HO_671002 := n4_; have BK628 := n5_; have BK629 := n6_; have BK630 := n7_; have BK637 := n8_; have BK644 := n9_; have BK656 := n10_; have BK663 := n11_; have BK670 := n12_; have HB := n13_; clear n0_ n1_ n2_ n3_ n4_ n5_ n6_ n7_ n8_ n9_ n10_ n11_ n12_ n13_; (try clear hb); (try clear hb2); (try clear hk); (try clear hi)))
               go_ret
               exact ⟨by first | rfl | (simp [errW_none, errW_some] <;> rfl) | (simp [*, errW_none, errW_some] <;> rfl), nC HB⟩
             · replace c149 := Bool.eq_false_iff.mpr c149
               subst c149
               have H1 : ((kimberlitelaw03_at.f t631 t632 t633 (wrap64 (a3 + a4))).bind fun bt677 => (kimberlitelaw03_CurveJoins.l0 kj129 a3 a4 t672 t674 bt677.1 bt677.2 false 0 a0_0 a0_1 l0_2 a1_0 a1_1 l1_2 t631 t632 t633)) = some r := by rw [if_neg (show ¬ (false = true) by decide)] at H; exact H
               clear H
               have H := H1
               clear H1
               replace H := Option.bind_eq_some_iff.mp H
               obtain ⟨⟨t677, t678⟩, A1520, H⟩ := H
               replace H : (kimberlitelaw03_CurveJoins.l0 kj129 a3 a4 t672 t674 t677 t678 false 0 a0_0 a0_1 l0_2 a1_0 a1_1 l1_2 t631 t632 t633) = some r := H
               have A152 := Aside0.mk A1520
               clear A1520
               have H' := Aside0.mk H
               clear H
               have hnb153 := NB637_628.out
               have hnc153 := NB628_637.out
               have hnb154 := NB637_629.out
               have hnc154 := NB629_637.out
               have hnb155 := NB637_630.out
               have hnc155 := NB630_637.out
               have hnb156 := NB637_644.out
               have hnc156 := NB644_637.out
               have hnb157 := NB637_656.out
               have hnc157 := NB656_637.out
               have hnb158 := NB637_663.out
               have hnc158 := NB663_637.out
               have hnb159 := NB637_670.out
               have hnc159 := NB670_637.out
               have hcz160_0 : wc.cell? ⟨gb637, 0, none⟩ = some (.int .i64 t631) := (blk_cell BK637.out 0).trans rfl
               have hcz160_1 : wc.cell? ⟨gb637, 1, none⟩ = some (.int .i64 t632) := (blk_cell BK637.out 1).trans rfl
               have hcz160_2 : wc.cell? ⟨gb637, 2, none⟩ = some (.slice Ao23 t633.length co23) := (blk_cell BK637.out 2).trans rfl
               have hfz160_0 := blk_frozen BK637.out 0
               have hfz160_1 := blk_frozen BK637.out 1
               have hfz160_2 := blk_frozen BK637.out 2
               go_wp2_with (first | ((with_reducible refine gate_callee (f := 18) rfl ?_); refine goesL_ (some 126) rfl rfl Try.func18 (by kernel_rfl) rfl #[.agg #[.int .i64 t631, .int .i64 t632, .slice Ao23 t633.length co23], .int .i64 (wrap64 (a3 + a4))] rfl (by (try simp only [List.map_toArray, List.map_cons, List.map_nil]); first | done | rfl | (simp only [List.length_drop, List.length_take]; rfl)) ?_; (with_reducible refine (kimberlitelaw03_at.calls t631 t632 _ _ t633 (wrap64 (a3 + a4)) t677 t678 _ ?side1 ?side2 A152.out).mono ?_); (case side1 => repeat (first | exact (Kd.R_reads' HO_638002.out).2.2 | (with_reducible refine Kd.C_alloc ?_ _) | (with_reducible refine Kd.C_drewN ?_ _) | (with_reducible refine Kd.C_drew ?_))); (case side2 => exact (Kd.R_reads' HO_638002.out).2.1); rintro e w161 ⟨rfl, hb⟩; refine ⟨_, rfl, ?_⟩; have n0_ := Aside0.mk (Kd.R_below (nR HO_638002) hb); have n1_ := Aside0.mk (Kd.R_below (nR HO_645002) hb); have n2_ := Aside0.mk (Kd.R_below (nR HO_657002) hb); have n3_ := Aside0.mk (Kd.R_below (nR HO_664002) hb); have n4_ := Aside0.mk (Kd.R_below (nR HO_671002) hb); have n5_ := Aside0.mk (nB BK628 hb); have n6_ := Aside0.mk (nB BK629 hb); have n7_ := Aside0.mk (nB BK630 hb); have n8_ := Aside0.mk (nB BK637 hb); have n9_ := Aside0.mk (nB BK644 hb); have n10_ := Aside0.mk (nB BK656 hb); have n11_ := Aside0.mk (nB BK663 hb); have n12_ := Aside0.mk (nB BK670 hb); have n13_ := Aside0.mk (below_step (nC HB) hb); clear HO_638002; clear HO_645002; clear HO_657002; clear HO_664002; clear HO_671002; clear BK628; clear BK629; clear BK630; clear BK637; clear BK644; clear BK656; clear BK663; clear BK670; clear HB; have HO_638002 := n0_; have HO_645002 := n1_; have HO_657002 := n2_; have HO_664002 := n3_; have HO_671002 := n4_; have BK628 := n5_; have BK629 := n6_; have BK630 := n7_; have BK637 := n8_; have BK644 := n9_; have BK656 := n10_; have BK663 := n11_; have BK670 := n12_; have HB := n13_; clear n0_ n1_ n2_ n3_ n4_ n5_ n6_ n7_ n8_ n9_ n10_ n11_ n12_ n13_; (try clear hb); (try clear hb2); (try clear hk); (try clear hi)))
               go_loopg [25, 26] kj129 (fun kq v25 v26 w' => ∃ (x25_4 : Bool) (x26_4 : Int), v25 = .bool x25_4 ∧ v26 = .int .i64 x26_4 ∧ Aside0 (kimberlitelaw03_CurveJoins.l0 kq a3 a4 t672 t674 t677 t678 x25_4 x26_4 a0_0 a0_1 l0_2 a1_0 a1_1 l1_2 t631 t632 t633 = some r) ∧ Aside0 (kq ≤ kj129) ∧ Aside0 (Kd.R (Kd.int .i64) 3 w' w.heap.size (fun k_ => some k_ ≠ ((.slice Ao33 t640.length co33) : Value).ownBlock ∧ some k_ ≠ ((.slice Ao79 t652.length co79) : Value).ownBlock ∧ some k_ ≠ ((.slice Ao93 t659.length co93) : Value).ownBlock ∧ some k_ ≠ ((.slice Ao106 t666.length co106) : Value).ownBlock) (.slice Ao23 t633.length co23) t633) ∧ Aside0 (Kd.R (Kd.int .i64) 3 w' w.heap.size (fun k_ => some k_ ≠ ((.slice Ao23 t633.length co23) : Value).ownBlock ∧ some k_ ≠ ((.slice Ao79 t652.length co79) : Value).ownBlock ∧ some k_ ≠ ((.slice Ao93 t659.length co93) : Value).ownBlock ∧ some k_ ≠ ((.slice Ao106 t666.length co106) : Value).ownBlock) (.slice Ao33 t640.length co33) t640) ∧ Aside0 (Kd.R (Kd.int .i64) 3 w' w.heap.size (fun k_ => some k_ ≠ ((.slice Ao23 t633.length co23) : Value).ownBlock ∧ some k_ ≠ ((.slice Ao33 t640.length co33) : Value).ownBlock ∧ some k_ ≠ ((.slice Ao93 t659.length co93) : Value).ownBlock ∧ some k_ ≠ ((.slice Ao106 t666.length co106) : Value).ownBlock) (.slice Ao79 t652.length co79) t652) ∧ Aside0 (Kd.R (Kd.int .i64) 3 w' w.heap.size (fun k_ => some k_ ≠ ((.slice Ao23 t633.length co23) : Value).ownBlock ∧ some k_ ≠ ((.slice Ao33 t640.length co33) : Value).ownBlock ∧ some k_ ≠ ((.slice Ao79 t652.length co79) : Value).ownBlock ∧ some k_ ≠ ((.slice Ao106 t666.length co106) : Value).ownBlock) (.slice Ao93 t659.length co93) t659) ∧ Aside0 (Kd.R (Kd.int .i64) 3 w' w.heap.size (fun k_ => some k_ ≠ ((.slice Ao23 t633.length co23) : Value).ownBlock ∧ some k_ ≠ ((.slice Ao33 t640.length co33) : Value).ownBlock ∧ some k_ ≠ ((.slice Ao79 t652.length co79) : Value).ownBlock ∧ some k_ ≠ ((.slice Ao93 t659.length co93) : Value).ownBlock) (.slice Ao106 t666.length co106) t666) ∧ Aside0 (w'.heap[gb628]? = some (.cells #[.int .i64 a0_0, .int .i64 a0_1, (.slice A0_2 l0_2.length c0_2)] 24 (0, 0))) ∧ Aside0 (w'.heap[gb629]? = some (.cells #[.int .i64 a1_0, .int .i64 a1_1, (.slice A1_2 l1_2.length c1_2)] 24 (0, 0))) ∧ Aside0 (w'.heap[gb630]? = some (.cells #[.int .i64 a2_0, .int .i64 a2_1, (.slice A2_2 l2_2.length c2_2)] 24 (0, 0))) ∧ Aside0 (w'.heap[gb637]? = some (.cells #[.int .i64 t631, .int .i64 t632, (.slice Ao23 t633.length co23)] 24 (0, 0))) ∧ Aside0 (w'.heap[gb644]? = some (.cells #[.int .i64 t638, .int .i64 t639, (.slice Ao33 t640.length co33)] 24 (0, 0))) ∧ Aside0 (w'.heap[gb656]? = some (.cells #[.int .i64 t650, .int .i64 t651, (.slice Ao79 t652.length co79)] 24 (0, 0))) ∧ Aside0 (w'.heap[gb663]? = some (.cells #[.int .i64 t657, .int .i64 t658, (.slice Ao93 t659.length co93)] 24 (0, 0))) ∧ Aside0 (w'.heap[gb670]? = some (.cells #[.int .i64 t664, .int .i64 t665, (.slice Ao106 t666.length co106)] 24 (0, 0))) ∧ Aside0 (Below w.heap.size w w'))
               case atStart => exact ⟨(false), (0), (by first | rfl | (simp; done) | (simp [*]; done)), (by first | rfl | (simp; done) | (simp [*]; done)), H', ⟨Nat.le_refl _⟩, ⟨nR HO_638002⟩, ⟨nR HO_645002⟩, ⟨nR HO_657002⟩, ⟨nR HO_664002⟩, ⟨nR HO_671002⟩, ⟨nK BK628⟩, ⟨nK BK629⟩, ⟨nK BK630⟩, ⟨nK BK637⟩, ⟨nK BK644⟩, ⟨nK BK656⟩, ⟨nK BK663⟩, ⟨nK BK670⟩, ⟨nC HB⟩⟩
               case round =>
                as_aux_lemma =>
                clear H'
                try clear c1
                try clear c2
                try clear p2
                try clear c3
                try clear c4
                try clear c5
                try clear c6
                try clear p6
                try clear c7
                try clear c8
                try clear c9
                try clear c10
                try clear c11
                try clear c12
                try clear c13
                try clear c14
                try clear c15
                try clear c17
                try clear c18
                try clear c19
                try clear c20
                try clear c21
                try clear c28
                try clear c29
                try clear c30
                try clear c31
                try clear c35
                try clear c36
                try clear c37
                try clear c38
                try clear c39
                try clear c41
                try clear c42
                try clear c43
                try clear c46
                try clear c47
                try clear c48
                try clear c49
                try clear c51
                try clear c52
                try clear c53
                try clear c56
                try clear c57
                try clear c57b0
                try clear c57b1
                try clear c62
                try clear c63
                try clear c64
                try clear p64
                try clear c65
                try clear c67
                try clear c68
                try clear c69
                try clear c73
                try clear c74
                try clear c75
                try clear c76
                try clear c77
                try clear c80
                try clear c81
                try clear c86
                try clear c87
                try clear c88
                try clear c89
                try clear c90
                try clear c91
                try clear c94
                try clear c98
                try clear c99
                try clear c100
                try clear c101
                try clear c102
                try clear c103
                try clear c104
                try clear c107
                try clear c107b0
                try clear c107b1
                try clear c108
                try clear c108b0
                try clear c108b1
                try clear c109
                try clear c109b0
                try clear c109b1
                try clear c111
                try clear c112
                try clear c113
                try clear c114
                try clear c115
                try clear c116
                try clear c117
                try clear c119
                try clear c120
                try clear c121
                try clear c122
                try clear c123
                try clear c124
                try clear c127
                try clear c131
                try clear c132
                try clear c133
                try clear c134
                try clear c135
                try clear c136
                try clear c137
                try clear c140
                try clear c141
                try clear c142
                try clear c143
                try clear c144
                try clear c145
                try clear c148
                try clear c149
                try clear c153
                try clear c154
                try clear c155
                try clear c156
                try clear c157
                try clear c158
                try clear c159
                try clear hcz105_0
                try clear hcz105_1
                try clear hcz105_2
                try clear hcz118_0
                try clear hcz118_1
                try clear hcz118_2
                try clear hcz125_0
                try clear hcz125_1
                try clear hcz125_2
                try clear hcz138_0
                try clear hcz138_1
                try clear hcz138_2
                try clear hcz146_0
                try clear hcz146_1
                try clear hcz146_2
                try clear hcz14_0
                try clear hcz14_1
                try clear hcz14_2
                try clear hcz160_0
                try clear hcz160_1
                try clear hcz160_2
                try clear hcz16_0
                try clear hcz16_1
                try clear hcz16_2
                try clear hcz22_0
                try clear hcz22_1
                try clear hcz22_2
                try clear hcz24_0
                try clear hcz24_1
                try clear hcz24_2
                try clear hcz25_0
                try clear hcz25_1
                try clear hcz25_2
                try clear hcz32_0
                try clear hcz32_1
                try clear hcz32_2
                try clear hcz40_0
                try clear hcz40_1
                try clear hcz40_2
                try clear hcz44_0
                try clear hcz44_1
                try clear hcz44_2
                try clear hcz50_0
                try clear hcz50_1
                try clear hcz50_2
                try clear hcz54_0
                try clear hcz54_1
                try clear hcz54_2
                try clear hcz66_0
                try clear hcz66_1
                try clear hcz66_2
                try clear hcz70_0
                try clear hcz70_1
                try clear hcz70_2
                try clear hcz78_0
                try clear hcz78_1
                try clear hcz78_2
                try clear hcz82_0
                try clear hcz82_1
                try clear hcz82_2
                try clear hcz83_0
                try clear hcz83_1
                try clear hcz83_2
                try clear hcz92_0
                try clear hcz92_1
                try clear hcz92_2
                try clear hcz95_0
                try clear hcz95_1
                try clear hcz95_2
                try clear hfz105_0
                try clear hfz105_1
                try clear hfz105_2
                try clear hfz118_0
                try clear hfz118_1
                try clear hfz118_2
                try clear hfz125_0
                try clear hfz125_1
                try clear hfz125_2
                try clear hfz138_0
                try clear hfz138_1
                try clear hfz138_2
                try clear hfz146_0
                try clear hfz146_1
                try clear hfz146_2
                try clear hfz14_0
                try clear hfz14_1
                try clear hfz14_2
                try clear hfz160_0
                try clear hfz160_1
                try clear hfz160_2
                try clear hfz16_0
                try clear hfz16_1
                try clear hfz16_2
                try clear hfz22_0
                try clear hfz22_1
                try clear hfz22_2
                try clear hfz24_0
                try clear hfz24_1
                try clear hfz24_2
                try clear hfz25_0
                try clear hfz25_1
                try clear hfz25_2
                try clear hfz32_0
                try clear hfz32_1
                try clear hfz32_2
                try clear hfz40_0
                try clear hfz40_1
                try clear hfz40_2
                try clear hfz44_0
                try clear hfz44_1
                try clear hfz44_2
                try clear hfz50_0
                try clear hfz50_1
                try clear hfz50_2
                try clear hfz54_0
                try clear hfz54_1
                try clear hfz54_2
                try clear hfz66_0
                try clear hfz66_1
                try clear hfz66_2
                try clear hfz70_0
                try clear hfz70_1
                try clear hfz70_2
                try clear hfz78_0
                try clear hfz78_1
                try clear hfz78_2
                try clear hfz82_0
                try clear hfz82_1
                try clear hfz82_2
                try clear hfz83_0
                try clear hfz83_1
                try clear hfz83_2
                try clear hfz92_0
                try clear hfz92_1
                try clear hfz92_2
                try clear hfz95_0
                try clear hfz95_1
                try clear hfz95_2
                try clear p2
                obtain ⟨x25_4, x26_4, rfl, rfl, HA, HK4, HO_638002, HO_645002, HO_657002, HO_664002, HO_671002, BK628, BK629, BK630, BK637, BK644, BK656, BK663, BK670, HB⟩ := hrel
                cases gk with
                | zero => exact absurd HA.out (by simp [kimberlitelaw03_CurveJoins.l0])
                | succ k4 =>
                 have H := HA.out
                 clear HA
                 simp only [kimberlitelaw03_CurveJoins.l0] at H
                 by_cases c162 : x26_4 ≤ (l0_2.length : Int)
                 · rw [if_pos c162] at H
                   have c162b0 : decide (x26_4 ≤ (l0_2.length : Int)) = true := decide_eq_true c162
                   clear c162
                   replace H := Option.bind_eq_some_iff.mp H
                   obtain ⟨⟨t679, t680⟩, A1630, H⟩ := H
                   replace H : ((kimberlitelaw03_at.f a1_0 a1_1 l1_2 (wrap64 ((wrap64 ((wrap64 (a3 + a4)) - a0_0)) - x26_4))).bind fun bt681 => (if t680 = true then (if bt681.2 = true then (kimberlitelaw03_CurveJoins.j4 k4 a3 a4 t672 t674 t677 t678 x25_4 x26_4 t679 t680 bt681.1 bt681.2 (decide ((wrap64 (t679 + bt681.1)) < t677)) a0_0 a0_1 l0_2 a1_0 a1_1 l1_2 t631 t632 t633) else (kimberlitelaw03_CurveJoins.j4 k4 a3 a4 t672 t674 t677 t678 x25_4 x26_4 t679 t680 bt681.1 bt681.2 false a0_0 a0_1 l0_2 a1_0 a1_1 l1_2 t631 t632 t633)) else (kimberlitelaw03_CurveJoins.j4 k4 a3 a4 t672 t674 t677 t678 x25_4 x26_4 t679 t680 bt681.1 bt681.2 false a0_0 a0_1 l0_2 a1_0 a1_1 l1_2 t631 t632 t633))) = some r := H
                   have A163 := Aside0.mk A1630
                   clear A1630
                   replace H := Option.bind_eq_some_iff.mp H
                   obtain ⟨⟨t681, t682⟩, A1640, H⟩ := H
                   replace H : (if t680 = true then (if t682 = true then (kimberlitelaw03_CurveJoins.j4 k4 a3 a4 t672 t674 t677 t678 x25_4 x26_4 t679 t680 t681 t682 (decide ((wrap64 (t679 + t681)) < t677)) a0_0 a0_1 l0_2 a1_0 a1_1 l1_2 t631 t632 t633) else (kimberlitelaw03_CurveJoins.j4 k4 a3 a4 t672 t674 t677 t678 x25_4 x26_4 t679 t680 t681 t682 false a0_0 a0_1 l0_2 a1_0 a1_1 l1_2 t631 t632 t633)) else (kimberlitelaw03_CurveJoins.j4 k4 a3 a4 t672 t674 t677 t678 x25_4 x26_4 t679 t680 t681 t682 false a0_0 a0_1 l0_2 a1_0 a1_1 l1_2 t631 t632 t633)) = some r := H
                   have A164 := Aside0.mk A1640
                   clear A1640
                   have HC165 := Aside0.mk H
                   clear H
                   have hnb166 := NB628_629.out
                   have hnc166 := NB629_628.out
                   have hnb167 := NB628_630.out
                   have hnc167 := NB630_628.out
                   have hnb168 := NB628_637.out
                   have hnc168 := NB637_628.out
                   have hnb169 := NB628_644.out
                   have hnc169 := NB644_628.out
                   have hnb170 := NB628_656.out
                   have hnc170 := NB656_628.out
                   have hnb171 := NB628_663.out
                   have hnc171 := NB663_628.out
                   have hnb172 := NB628_670.out
                   have hnc172 := NB670_628.out
                   have hcz173_0 : wr.cell? ⟨gb628, 0, none⟩ = some (.int .i64 a0_0) := (blk_cell BK628.out 0).trans rfl
                   have hcz173_1 : wr.cell? ⟨gb628, 1, none⟩ = some (.int .i64 a0_1) := (blk_cell BK628.out 1).trans rfl
                   have hcz173_2 : wr.cell? ⟨gb628, 2, none⟩ = some (.slice A0_2 l0_2.length c0_2) := (blk_cell BK628.out 2).trans rfl
                   have hfz173_0 := blk_frozen BK628.out 0
                   have hfz173_1 := blk_frozen BK628.out 1
                   have hfz173_2 := blk_frozen BK628.out 2
                   go_upto_region 23 with (first | ((with_reducible refine gate_callee (f := 18) rfl ?_); refine goesL_ (some 142) rfl rfl Try.func18 (by kernel_rfl) rfl #[.agg #[.int .i64 a0_0, .int .i64 a0_1, .slice A0_2 l0_2.length c0_2], .int .i64 (wrap64 (a0_0 + x26_4))] rfl (by (try simp only [List.map_toArray, List.map_cons, List.map_nil]); first | done | rfl | (simp only [List.length_drop, List.length_take]; rfl)) ?_; (with_reducible refine (kimberlitelaw03_at.calls a0_0 a0_1 _ _ l0_2 (wrap64 (a0_0 + x26_4)) t679 t680 _ ?side1 ?side2 A163.out).mono ?_); (case side1 => repeat (first | exact (Kd.C_below HR0_2.out HB.out) | (with_reducible refine Kd.C_alloc ?_ _) | (with_reducible refine Kd.C_drewN ?_ _) | (with_reducible refine Kd.C_drew ?_))); (case side2 => exact HC0_2.out); rintro e w174 ⟨rfl, hb⟩; refine ⟨_, rfl, ?_⟩; have n0_ := Aside0.mk (Kd.R_below (nR HO_638002) hb); have n1_ := Aside0.mk (Kd.R_below (nR HO_645002) hb); have n2_ := Aside0.mk (Kd.R_below (nR HO_657002) hb); have n3_ := Aside0.mk (Kd.R_below (nR HO_664002) hb); have n4_ := Aside0.mk (Kd.R_below (nR HO_671002) hb); have n5_ := Aside0.mk (nB BK628 hb); have n6_ := Aside0.mk (nB BK629 hb); have n7_ := Aside0.mk (nB BK630 hb); have n8_ := Aside0.mk (nB BK637 hb); have n9_ := Aside0.mk (nB BK644 hb); have n10_ := Aside0.mk (nB BK656 hb); have n11_ := Aside0.mk (nB BK663 hb); have n12_ := Aside0.mk (nB BK670 hb); have n13_ := Aside0.mk (below_step (nC HB) hb); clear HO_638002; clear HO_645002; clear HO_657002; clear HO_664002; clear HO_671002; clear BK628; clear BK629; clear BK630; clear BK637; clear BK644; clear BK656; clear BK663; clear BK670; clear HB; have HO_638002 := n0_; have HO_645002 := n1_; have HO_657002 := n2_; have HO_664002 := n3_; have HO_671002 := n4_; have BK628 := n5_; have BK629 := n6_; have BK630 := n7_; have BK637 := n8_; have BK644 := n9_; have BK656 := n10_; have BK663 := n11_; have BK670 := n12_; have HB := n13_; clear n0_ n1_ n2_ n3_ n4_ n5_ n6_ n7_ n8_ n9_ n10_ n11_ n12_ n13_; (try clear hb); (try clear hb2); (try clear hk); (try clear hi); have hnb175 := NB629_630.out; have hnc175 := NB630_629.out; have hnb176 := NB629_637.out; have hnc176 := NB637_629.out; have hnb177 := NB629_644.out; have hnc177 := NB644_629.out; have hnb178 := NB629_656.out; have hnc178 := NB656_629.out; have hnb179 := NB629_663.out; have hnc179 := NB663_629.out; have hnb180 := NB629_670.out; have hnc180 := NB670_629.out; have hcz181_0 : w174.cell? ⟨gb629, 0, none⟩ = some (.int .i64 a1_0) := (blk_cell BK629.out 0).trans rfl; have hcz181_1 : w174.cell? ⟨gb629, 1, none⟩ = some (.int .i64 a1_1) := (blk_cell BK629.out 1).trans rfl; have hcz181_2 : w174.cell? ⟨gb629, 2, none⟩ = some (.slice A1_2 l1_2.length c1_2) := (blk_cell BK629.out 2).trans rfl; have hfz181_0 := blk_frozen BK629.out 0; have hfz181_1 := blk_frozen BK629.out 1; have hfz181_2 := blk_frozen BK629.out 2; have hcz182_0 : w174.cell? ⟨gb628, 0, none⟩ = some (.int .i64 a0_0) := (blk_cell BK628.out 0).trans rfl; have hcz182_1 : w174.cell? ⟨gb628, 1, none⟩ = some (.int .i64 a0_1) := (blk_cell BK628.out 1).trans rfl; have hcz182_2 : w174.cell? ⟨gb628, 2, none⟩ = some (.slice A0_2 l0_2.length c0_2) := (blk_cell BK628.out 2).trans rfl; have hfz182_0 := blk_frozen BK628.out 0; have hfz182_1 := blk_frozen BK628.out 1; have hfz182_2 := blk_frozen BK628.out 2) | ((with_reducible refine gate_callee (f := 18) rfl ?_); refine goesL_ (some 155) rfl rfl Try.func18 (by kernel_rfl) rfl #[.agg #[.int .i64 a1_0, .int .i64 a1_1, .slice A1_2 l1_2.length c1_2], .int .i64 (wrap64 ((wrap64 ((wrap64 (a3 + a4)) - a0_0)) - x26_4))] rfl (by (try simp only [List.map_toArray, List.map_cons, List.map_nil]); first | done | rfl | (simp only [List.length_drop, List.length_take]; rfl)) ?_; (with_reducible refine (kimberlitelaw03_at.calls a1_0 a1_1 _ _ l1_2 (wrap64 ((wrap64 ((wrap64 (a3 + a4)) - a0_0)) - x26_4)) t681 t682 _ ?side1 ?side2 A164.out).mono ?_); (case side1 => repeat (first | exact (Kd.C_below HR1_2.out HB.out) | (with_reducible refine Kd.C_alloc ?_ _) | (with_reducible refine Kd.C_drewN ?_ _) | (with_reducible refine Kd.C_drew ?_))); (case side2 => exact HC1_2.out); rintro e w183 ⟨rfl, hb⟩; refine ⟨_, rfl, ?_⟩; have n0_ := Aside0.mk (Kd.R_below (nR HO_638002) hb); have n1_ := Aside0.mk (Kd.R_below (nR HO_645002) hb); have n2_ := Aside0.mk (Kd.R_below (nR HO_657002) hb); have n3_ := Aside0.mk (Kd.R_below (nR HO_664002) hb); have n4_ := Aside0.mk (Kd.R_below (nR HO_671002) hb); have n5_ := Aside0.mk (nB BK628 hb); have n6_ := Aside0.mk (nB BK629 hb); have n7_ := Aside0.mk (nB BK630 hb); have n8_ := Aside0.mk (nB BK637 hb); have n9_ := Aside0.mk (nB BK644 hb); have n10_ := Aside0.mk (nB BK656 hb); have n11_ := Aside0.mk (nB BK663 hb); have n12_ := Aside0.mk (nB BK670 hb); have n13_ := Aside0.mk (below_step (nC HB) hb); clear HO_638002; clear HO_645002; clear HO_657002; clear HO_664002; clear HO_671002; clear BK628; clear BK629; clear BK630; clear BK637; clear BK644; clear BK656; clear BK663; clear BK670; clear HB; have HO_638002 := n0_; have HO_645002 := n1_; have HO_657002 := n2_; have HO_664002 := n3_; have HO_671002 := n4_; have BK628 := n5_; have BK629 := n6_; have BK630 := n7_; have BK637 := n8_; have BK644 := n9_; have BK656 := n10_; have BK663 := n11_; have BK670 := n12_; have HB := n13_; clear n0_ n1_ n2_ n3_ n4_ n5_ n6_ n7_ n8_ n9_ n10_ n11_ n12_ n13_; (try clear hb); (try clear hb2); (try clear hk); (try clear hi)))
                   (try simp only [Act.put, List.setIfInBounds_toArray, List.set_cons_zero, List.set_cons_succ])
                   go_cut [168] (fun v168 wc => ∃ (kq : Nat) (x168_164 : Bool), v168 = .bool x168_164 ∧ Aside0 (kimberlitelaw03_CurveJoins.j4 kq a3 a4 t672 t674 t677 t678 x25_4 x26_4 t679 t680 t681 t682 x168_164 a0_0 a0_1 l0_2 a1_0 a1_1 l1_2 t631 t632 t633 = some r) ∧ Aside0 (kq ≤ k4) ∧ Aside0 (Kd.R (Kd.int .i64) 3 wc w.heap.size (fun k_ => some k_ ≠ ((.slice Ao33 t640.length co33) : Value).ownBlock ∧ some k_ ≠ ((.slice Ao79 t652.length co79) : Value).ownBlock ∧ some k_ ≠ ((.slice Ao93 t659.length co93) : Value).ownBlock ∧ some k_ ≠ ((.slice Ao106 t666.length co106) : Value).ownBlock) (.slice Ao23 t633.length co23) t633) ∧ Aside0 (Kd.R (Kd.int .i64) 3 wc w.heap.size (fun k_ => some k_ ≠ ((.slice Ao23 t633.length co23) : Value).ownBlock ∧ some k_ ≠ ((.slice Ao79 t652.length co79) : Value).ownBlock ∧ some k_ ≠ ((.slice Ao93 t659.length co93) : Value).ownBlock ∧ some k_ ≠ ((.slice Ao106 t666.length co106) : Value).ownBlock) (.slice Ao33 t640.length co33) t640) ∧ Aside0 (Kd.R (Kd.int .i64) 3 wc w.heap.size (fun k_ => some k_ ≠ ((.slice Ao23 t633.length co23) : Value).ownBlock ∧ some k_ ≠ ((.slice Ao33 t640.length co33) : Value).ownBlock ∧ some k_ ≠ ((.slice Ao93 t659.length co93) : Value).ownBlock ∧ some k_ ≠ ((.slice Ao106 t666.length co106) : Value).ownBlock) (.slice Ao79 t652.length co79) t652) ∧ Aside0 (Kd.R (Kd.int .i64) 3 wc w.heap.size (fun k_ => some k_ ≠ ((.slice Ao23 t633.length co23) : Value).ownBlock ∧ some k_ ≠ ((.slice Ao33 t640.length co33) : Value).ownBlock ∧ some k_ ≠ ((.slice Ao79 t652.length co79) : Value).ownBlock ∧ some k_ ≠ ((.slice Ao106 t666.length co106) : Value).ownBlock) (.slice Ao93 t659.length co93) t659) ∧ Aside0 (Kd.R (Kd.int .i64) 3 wc w.heap.size (fun k_ => some k_ ≠ ((.slice Ao23 t633.length co23) : Value).ownBlock ∧ some k_ ≠ ((.slice Ao33 t640.length co33) : Value).ownBlock ∧ some k_ ≠ ((.slice Ao79 t652.length co79) : Value).ownBlock ∧ some k_ ≠ ((.slice Ao93 t659.length co93) : Value).ownBlock) (.slice Ao106 t666.length co106) t666) ∧ Aside0 (wc.heap[gb628]? = some (.cells #[.int .i64 a0_0, .int .i64 a0_1, (.slice A0_2 l0_2.length c0_2)] 24 (0, 0))) ∧ Aside0 (wc.heap[gb629]? = some (.cells #[.int .i64 a1_0, .int .i64 a1_1, (.slice A1_2 l1_2.length c1_2)] 24 (0, 0))) ∧ Aside0 (wc.heap[gb630]? = some (.cells #[.int .i64 a2_0, .int .i64 a2_1, (.slice A2_2 l2_2.length c2_2)] 24 (0, 0))) ∧ Aside0 (wc.heap[gb637]? = some (.cells #[.int .i64 t631, .int .i64 t632, (.slice Ao23 t633.length co23)] 24 (0, 0))) ∧ Aside0 (wc.heap[gb644]? = some (.cells #[.int .i64 t638, .int .i64 t639, (.slice Ao33 t640.length co33)] 24 (0, 0))) ∧ Aside0 (wc.heap[gb656]? = some (.cells #[.int .i64 t650, .int .i64 t651, (.slice Ao79 t652.length co79)] 24 (0, 0))) ∧ Aside0 (wc.heap[gb663]? = some (.cells #[.int .i64 t657, .int .i64 t658, (.slice Ao93 t659.length co93)] 24 (0, 0))) ∧ Aside0 (wc.heap[gb670]? = some (.cells #[.int .i64 t664, .int .i64 t665, (.slice Ao106 t666.length co106)] 24 (0, 0))) ∧ Aside0 (Below w.heap.size w wc))
                   case first =>
                    as_aux_lemma =>
                    have H := HC165.out
                    clear HC165
                    by_cases c184 : t680 = true
                    · subst c184
                      have H1 : (if t682 = true then (kimberlitelaw03_CurveJoins.j4 k4 a3 a4 t672 t674 t677 t678 x25_4 x26_4 t679 true t681 t682 (decide ((wrap64 (t679 + t681)) < t677)) a0_0 a0_1 l0_2 a1_0 a1_1 l1_2 t631 t632 t633) else (kimberlitelaw03_CurveJoins.j4 k4 a3 a4 t672 t674 t677 t678 x25_4 x26_4 t679 true t681 t682 false a0_0 a0_1 l0_2 a1_0 a1_1 l1_2 t631 t632 t633)) = some r := by rw [if_pos rfl] at H; exact H
                      clear H
                      have H := H1
                      clear H1
                      by_cases c185 : t682 = true
                      · subst c185
                        have H1 : (kimberlitelaw03_CurveJoins.j4 k4 a3 a4 t672 t674 t677 t678 x25_4 x26_4 t679 true t681 true (decide ((wrap64 (t679 + t681)) < t677)) a0_0 a0_1 l0_2 a1_0 a1_1 l1_2 t631 t632 t633) = some r := by rw [if_pos rfl] at H; exact H
                        clear H
                        have H := H1
                        clear H1
                        have H' := Aside0.mk H
                        clear H
                        go_wp2
                        go_meet
                        case rel => exact ⟨_, (decide ((wrap64 (t679 + t681)) < t677)), (by first | rfl | (simp; done) | (simp [*]; done)), H', ⟨by have := HJ7.out; have := HJ60.out; have := HJ129.out; have := HK4.out; first | omega | exact Nat.le_refl _⟩, ⟨nR HO_638002⟩, ⟨nR HO_645002⟩, ⟨nR HO_657002⟩, ⟨nR HO_664002⟩, ⟨nR HO_671002⟩, ⟨nK BK628⟩, ⟨nK BK629⟩, ⟨nK BK630⟩, ⟨nK BK637⟩, ⟨nK BK644⟩, ⟨nK BK656⟩, ⟨nK BK663⟩, ⟨nK BK670⟩, ⟨nC HB⟩⟩
                      · replace c185 := Bool.eq_false_iff.mpr c185
                        subst c185
                        have H1 : (kimberlitelaw03_CurveJoins.j4 k4 a3 a4 t672 t674 t677 t678 x25_4 x26_4 t679 true t681 false false a0_0 a0_1 l0_2 a1_0 a1_1 l1_2 t631 t632 t633) = some r := by rw [if_neg (show ¬ (false = true) by decide)] at H; exact H
                        clear H
                        have H := H1
                        clear H1
                        have H' := Aside0.mk H
                        clear H
                        go_wp2
                        go_meet
                        case rel => exact ⟨_, (false), (by first | rfl | (simp; done) | (simp [*]; done)), H', ⟨by have := HJ7.out; have := HJ60.out; have := HJ129.out; have := HK4.out; first | omega | exact Nat.le_refl _⟩, ⟨nR HO_638002⟩, ⟨nR HO_645002⟩, ⟨nR HO_657002⟩, ⟨nR HO_664002⟩, ⟨nR HO_671002⟩, ⟨nK BK628⟩, ⟨nK BK629⟩, ⟨nK BK630⟩, ⟨nK BK637⟩, ⟨nK BK644⟩, ⟨nK BK656⟩, ⟨nK BK663⟩, ⟨nK BK670⟩, ⟨nC HB⟩⟩
                    · replace c184 := Bool.eq_false_iff.mpr c184
                      subst c184
                      have H1 : (kimberlitelaw03_CurveJoins.j4 k4 a3 a4 t672 t674 t677 t678 x25_4 x26_4 t679 false t681 t682 false a0_0 a0_1 l0_2 a1_0 a1_1 l1_2 t631 t632 t633) = some r := by rw [if_neg (show ¬ (false = true) by decide)] at H; exact H
                      clear H
                      have H := H1
                      clear H1
                      have H' := Aside0.mk H
                      clear H
                      go_wp2
                      go_meet
                      case rel => exact ⟨_, (false), (by first | rfl | (simp; done) | (simp [*]; done)), H', ⟨by have := HJ7.out; have := HJ60.out; have := HJ129.out; have := HK4.out; first | omega | exact Nat.le_refl _⟩, ⟨nR HO_638002⟩, ⟨nR HO_645002⟩, ⟨nR HO_657002⟩, ⟨nR HO_664002⟩, ⟨nR HO_671002⟩, ⟨nK BK628⟩, ⟨nK BK629⟩, ⟨nK BK630⟩, ⟨nK BK637⟩, ⟨nK BK644⟩, ⟨nK BK656⟩, ⟨nK BK663⟩, ⟨nK BK670⟩, ⟨nC HB⟩⟩
                   case rest =>
                    as_aux_lemma =>
                    clear HC165
                    try clear c1
                    try clear c2
                    try clear p2
                    try clear c3
                    try clear c4
                    try clear c5
                    try clear c6
                    try clear p6
                    try clear c7
                    try clear c8
                    try clear c9
                    try clear c10
                    try clear c11
                    try clear c12
                    try clear c13
                    try clear c14
                    try clear c15
                    try clear c16
                    try clear c17
                    try clear c18
                    try clear c19
                    try clear c20
                    try clear c21
                    try clear c28
                    try clear c29
                    try clear c30
                    try clear c31
                    try clear c35
                    try clear c36
                    try clear c37
                    try clear c38
                    try clear c39
                    try clear c41
                    try clear c42
                    try clear c43
                    try clear c46
                    try clear c47
                    try clear c48
                    try clear c49
                    try clear c51
                    try clear c52
                    try clear c53
                    try clear c56
                    try clear c57
                    try clear c57b0
                    try clear c57b1
                    try clear c62
                    try clear c63
                    try clear c64
                    try clear p64
                    try clear c65
                    try clear c67
                    try clear c68
                    try clear c69
                    try clear c73
                    try clear c74
                    try clear c75
                    try clear c76
                    try clear c77
                    try clear c80
                    try clear c81
                    try clear c86
                    try clear c87
                    try clear c88
                    try clear c89
                    try clear c90
                    try clear c91
                    try clear c94
                    try clear c98
                    try clear c99
                    try clear c100
                    try clear c101
                    try clear c102
                    try clear c103
                    try clear c104
                    try clear c107
                    try clear c107b0
                    try clear c107b1
                    try clear c108
                    try clear c108b0
                    try clear c108b1
                    try clear c109
                    try clear c109b0
                    try clear c109b1
                    try clear c111
                    try clear c112
                    try clear c113
                    try clear c114
                    try clear c115
                    try clear c116
                    try clear c117
                    try clear c119
                    try clear c120
                    try clear c121
                    try clear c122
                    try clear c123
                    try clear c124
                    try clear c127
                    try clear c131
                    try clear c132
                    try clear c133
                    try clear c134
                    try clear c135
                    try clear c136
                    try clear c137
                    try clear c140
                    try clear c141
                    try clear c142
                    try clear c143
                    try clear c144
                    try clear c145
                    try clear c148
                    try clear c149
                    try clear c153
                    try clear c154
                    try clear c155
                    try clear c156
                    try clear c157
                    try clear c158
                    try clear c159
                    try clear c162
                    try clear c162b0
                    try clear c166
                    try clear c167
                    try clear c168
                    try clear c169
                    try clear c170
                    try clear c171
                    try clear c172
                    try clear c175
                    try clear c176
                    try clear c177
                    try clear c178
                    try clear c179
                    try clear c180
                    try clear c184
                    try clear c185
                    try clear hcz105_0
                    try clear hcz105_1
                    try clear hcz105_2
                    try clear hcz118_0
                    try clear hcz118_1
                    try clear hcz118_2
                    try clear hcz125_0
                    try clear hcz125_1
                    try clear hcz125_2
                    try clear hcz138_0
                    try clear hcz138_1
                    try clear hcz138_2
                    try clear hcz146_0
                    try clear hcz146_1
                    try clear hcz146_2
                    try clear hcz14_0
                    try clear hcz14_1
                    try clear hcz14_2
                    try clear hcz160_0
                    try clear hcz160_1
                    try clear hcz160_2
                    try clear hcz16_0
                    try clear hcz16_1
                    try clear hcz16_2
                    try clear hcz173_0
                    try clear hcz173_1
                    try clear hcz173_2
                    try clear hcz181_0
                    try clear hcz181_1
                    try clear hcz181_2
                    try clear hcz182_0
                    try clear hcz182_1
                    try clear hcz182_2
                    try clear hcz22_0
                    try clear hcz22_1
                    try clear hcz22_2
                    try clear hcz24_0
                    try clear hcz24_1
                    try clear hcz24_2
                    try clear hcz25_0
                    try clear hcz25_1
                    try clear hcz25_2
                    try clear hcz32_0
                    try clear hcz32_1
                    try clear hcz32_2
                    try clear hcz40_0
                    try clear hcz40_1
                    try clear hcz40_2
                    try clear hcz44_0
                    try clear hcz44_1
                    try clear hcz44_2
                    try clear hcz50_0
                    try clear hcz50_1
                    try clear hcz50_2
                    try clear hcz54_0
                    try clear hcz54_1
                    try clear hcz54_2
                    try clear hcz66_0
                    try clear hcz66_1
                    try clear hcz66_2
                    try clear hcz70_0
                    try clear hcz70_1
                    try clear hcz70_2
                    try clear hcz78_0
                    try clear hcz78_1
                    try clear hcz78_2
                    try clear hcz82_0
                    try clear hcz82_1
                    try clear hcz82_2
                    try clear hcz83_0
                    try clear hcz83_1
                    try clear hcz83_2
                    try clear hcz92_0
                    try clear hcz92_1
                    try clear hcz92_2
                    try clear hcz95_0
                    try clear hcz95_1
                    try clear hcz95_2
                    try clear hfz105_0
                    try clear hfz105_1
                    try clear hfz105_2
                    try clear hfz118_0
                    try clear hfz118_1
                    try clear hfz118_2
                    try clear hfz125_0
                    try clear hfz125_1
                    try clear hfz125_2
                    try clear hfz138_0
                    try clear hfz138_1
                    try clear hfz138_2
                    try clear hfz146_0
                    try clear hfz146_1
                    try clear hfz146_2
                    try clear hfz14_0
                    try clear hfz14_1
                    try clear hfz14_2
                    try clear hfz160_0
                    try clear hfz160_1
                    try clear hfz160_2
                    try clear hfz16_0
                    try clear hfz16_1
                    try clear hfz16_2
                    try clear hfz173_0
                    try clear hfz173_1
                    try clear hfz173_2
                    try clear hfz181_0
                    try clear hfz181_1
                    try clear hfz181_2
                    try clear hfz182_0
                    try clear hfz182_1
                    try clear hfz182_2
                    try clear hfz22_0
                    try clear hfz22_1
                    try clear hfz22_2
                    try clear hfz24_0
                    try clear hfz24_1
                    try clear hfz24_2
                    try clear hfz25_0
                    try clear hfz25_1
                    try clear hfz25_2
                    try clear hfz32_0
                    try clear hfz32_1
                    try clear hfz32_2
                    try clear hfz40_0
                    try clear hfz40_1
                    try clear hfz40_2
                    try clear hfz44_0
                    try clear hfz44_1
                    try clear hfz44_2
                    try clear hfz50_0
                    try clear hfz50_1
                    try clear hfz50_2
                    try clear hfz54_0
                    try clear hfz54_1
                    try clear hfz54_2
                    try clear hfz66_0
                    try clear hfz66_1
                    try clear hfz66_2
                    try clear hfz70_0
                    try clear hfz70_1
                    try clear hfz70_2
                    try clear hfz78_0
                    try clear hfz78_1
                    try clear hfz78_2
                    try clear hfz82_0
                    try clear hfz82_1
                    try clear hfz82_2
                    try clear hfz83_0
                    try clear hfz83_1
                    try clear hfz83_2
                    try clear hfz92_0
                    try clear hfz92_1
                    try clear hfz92_2
                    try clear hfz95_0
                    try clear hfz95_1
                    try clear hfz95_2
                    try clear p2
                    try clear p6
                    try clear p64
                    obtain ⟨kq, x168_164, rfl, HA, HJ164, HO_638002, HO_645002, HO_657002, HO_664002, HO_671002, BK628, BK629, BK630, BK637, BK644, BK656, BK663, BK670, HB⟩ := hcut
                    cases kq with
                    | zero => exact absurd HA.out (by simp [kimberlitelaw03_CurveJoins.j4])
                    | succ kj164 =>
                     have H := HA.out
                     clear HA
                     simp only [kimberlitelaw03_CurveJoins.j4] at H
                     by_cases c186 : x168_164 = true
                     · subst c186
                       have H1 : (some false) = some r := by rw [if_pos rfl] at H; exact H
                       clear H
                       have H := H1
                       clear H1
                       obtain rfl := Option.some.inj H
                       go_wp2
                       go_ret
                       exact ⟨by first | rfl | (simp [errW_none, errW_some] <;> rfl) | (simp [*, errW_none, errW_some] <;> rfl), nC HB⟩
                     · replace c186 := Bool.eq_false_iff.mpr c186
                       subst c186
                       have H1 : (if x25_4 = true then (kimberlitelaw03_CurveJoins.l0 kj164 a3 a4 t672 t674 t677 t678 true (wrap64 (x26_4 + 1)) a0_0 a0_1 l0_2 a1_0 a1_1 l1_2 t631 t632 t633) else (if t680 = true then (if t682 = true then (kimberlitelaw03_CurveJoins.l0 kj164 a3 a4 t672 t674 t677 t678 ((wrap64 (t679 + t681)) == t677) (wrap64 (x26_4 + 1)) a0_0 a0_1 l0_2 a1_0 a1_1 l1_2 t631 t632 t633) else (kimberlitelaw03_CurveJoins.l0 kj164 a3 a4 t672 t674 t677 t678 false (wrap64 (x26_4 + 1)) a0_0 a0_1 l0_2 a1_0 a1_1 l1_2 t631 t632 t633)) else (kimberlitelaw03_CurveJoins.l0 kj164 a3 a4 t672 t674 t677 t678 false (wrap64 (x26_4 + 1)) a0_0 a0_1 l0_2 a1_0 a1_1 l1_2 t631 t632 t633))) = some r := by rw [if_neg (show ¬ (false = true) by decide)] at H; exact H
                       clear H
                       have H := H1
                       clear H1
                       by_cases c187 : x25_4 = true
                       · subst c187
                         have H1 : (kimberlitelaw03_CurveJoins.l0 kj164 a3 a4 t672 t674 t677 t678 true (wrap64 (x26_4 + 1)) a0_0 a0_1 l0_2 a1_0 a1_1 l1_2 t631 t632 t633) = some r := by rw [if_pos rfl] at H; exact H
                         clear H
                         have H := H1
                         clear H1
                         have H' := Aside0.mk H
                         clear H
                         go_wp2
                         go_roundg kj164
                         case measure => have := HJ7.out; have := HJ60.out; have := HJ129.out; have := HK4.out; have := HJ164.out; omega
                         case rel => exact ⟨(true), (wrap64 (x26_4 + 1)), (by first | rfl | (simp; done) | (simp [*]; done)), (by first | rfl | (simp; done) | (simp [*]; done)), H', ⟨by have := HJ7.out; have := HJ60.out; have := HJ129.out; have := HK4.out; have := HJ164.out; omega⟩, ⟨nR HO_638002⟩, ⟨nR HO_645002⟩, ⟨nR HO_657002⟩, ⟨nR HO_664002⟩, ⟨nR HO_671002⟩, ⟨nK BK628⟩, ⟨nK BK629⟩, ⟨nK BK630⟩, ⟨nK BK637⟩, ⟨nK BK644⟩, ⟨nK BK656⟩, ⟨nK BK663⟩, ⟨nK BK670⟩, ⟨nC HB⟩⟩
                       · replace c187 := Bool.eq_false_iff.mpr c187
                         subst c187
                         have H1 : (if t680 = true then (if t682 = true then (kimberlitelaw03_CurveJoins.l0 kj164 a3 a4 t672 t674 t677 t678 ((wrap64 (t679 + t681)) == t677) (wrap64 (x26_4 + 1)) a0_0 a0_1 l0_2 a1_0 a1_1 l1_2 t631 t632 t633) else (kimberlitelaw03_CurveJoins.l0 kj164 a3 a4 t672 t674 t677 t678 false (wrap64 (x26_4 + 1)) a0_0 a0_1 l0_2 a1_0 a1_1 l1_2 t631 t632 t633)) else (kimberlitelaw03_CurveJoins.l0 kj164 a3 a4 t672 t674 t677 t678 false (wrap64 (x26_4 + 1)) a0_0 a0_1 l0_2 a1_0 a1_1 l1_2 t631 t632 t633)) = some r := by rw [if_neg (show ¬ (false = true) by decide)] at H; exact H
                         clear H
                         have H := H1
                         clear H1
                         by_cases c188 : t680 = true
                         · subst c188
                           have H1 : (if t682 = true then (kimberlitelaw03_CurveJoins.l0 kj164 a3 a4 t672 t674 t677 t678 ((wrap64 (t679 + t681)) == t677) (wrap64 (x26_4 + 1)) a0_0 a0_1 l0_2 a1_0 a1_1 l1_2 t631 t632 t633) else (kimberlitelaw03_CurveJoins.l0 kj164 a3 a4 t672 t674 t677 t678 false (wrap64 (x26_4 + 1)) a0_0 a0_1 l0_2 a1_0 a1_1 l1_2 t631 t632 t633)) = some r := by rw [if_pos rfl] at H; exact H
                           clear H
                           have H := H1
                           clear H1
                           by_cases c189 : t682 = true
                           · subst c189
                             have H1 : (kimberlitelaw03_CurveJoins.l0 kj164 a3 a4 t672 t674 t677 t678 ((wrap64 (t679 + t681)) == t677) (wrap64 (x26_4 + 1)) a0_0 a0_1 l0_2 a1_0 a1_1 l1_2 t631 t632 t633) = some r := by rw [if_pos rfl] at H; exact H
                             clear H
                             have H := H1
                             clear H1
                             have H' := Aside0.mk H
                             clear H
                             go_wp2
                             go_roundg kj164
                             case measure => have := HJ7.out; have := HJ60.out; have := HJ129.out; have := HK4.out; have := HJ164.out; omega
                             case rel => exact ⟨(((wrap64 (t679 + t681)) == t677)), (wrap64 (x26_4 + 1)), (by first | rfl | (simp; done) | (simp [*]; done)), (by first | rfl | (simp; done) | (simp [*]; done)), H', ⟨by have := HJ7.out; have := HJ60.out; have := HJ129.out; have := HK4.out; have := HJ164.out; omega⟩, ⟨nR HO_638002⟩, ⟨nR HO_645002⟩, ⟨nR HO_657002⟩, ⟨nR HO_664002⟩, ⟨nR HO_671002⟩, ⟨nK BK628⟩, ⟨nK BK629⟩, ⟨nK BK630⟩, ⟨nK BK637⟩, ⟨nK BK644⟩, ⟨nK BK656⟩, ⟨nK BK663⟩, ⟨nK BK670⟩, ⟨nC HB⟩⟩
                           · replace c189 := Bool.eq_false_iff.mpr c189
                             subst c189
                             have H1 : (kimberlitelaw03_CurveJoins.l0 kj164 a3 a4 t672 t674 t677 t678 false (wrap64 (x26_4 + 1)) a0_0 a0_1 l0_2 a1_0 a1_1 l1_2 t631 t632 t633) = some r := by rw [if_neg (show ¬ (false = true) by decide)] at H; exact H
                             clear H
                             have H := H1
                             clear H1
                             have H' := Aside0.mk H
                             clear H
                             go_wp2
                             go_roundg kj164
                             case measure => have := HJ7.out; have := HJ60.out; have := HJ129.out; have := HK4.out; have := HJ164.out; omega
                             case rel => exact ⟨(false), (wrap64 (x26_4 + 1)), (by first | rfl | (simp; done) | (simp [*]; done)), (by first | rfl | (simp; done) | (simp [*]; done)), H', ⟨by have := HJ7.out; have := HJ60.out; have := HJ129.out; have := HK4.out; have := HJ164.out; omega⟩, ⟨nR HO_638002⟩, ⟨nR HO_645002⟩, ⟨nR HO_657002⟩, ⟨nR HO_664002⟩, ⟨nR HO_671002⟩, ⟨nK BK628⟩, ⟨nK BK629⟩, ⟨nK BK630⟩, ⟨nK BK637⟩, ⟨nK BK644⟩, ⟨nK BK656⟩, ⟨nK BK663⟩, ⟨nK BK670⟩, ⟨nC HB⟩⟩
                         · replace c188 := Bool.eq_false_iff.mpr c188
                           subst c188
                           have H1 : (kimberlitelaw03_CurveJoins.l0 kj164 a3 a4 t672 t674 t677 t678 false (wrap64 (x26_4 + 1)) a0_0 a0_1 l0_2 a1_0 a1_1 l1_2 t631 t632 t633) = some r := by rw [if_neg (show ¬ (false = true) by decide)] at H; exact H
                           clear H
                           have H := H1
                           clear H1
                           have H' := Aside0.mk H
                           clear H
                           go_wp2
                           go_roundg kj164
                           case measure => have := HJ7.out; have := HJ60.out; have := HJ129.out; have := HK4.out; have := HJ164.out; omega
                           case rel => exact ⟨(false), (wrap64 (x26_4 + 1)), (by first | rfl | (simp; done) | (simp [*]; done)), (by first | rfl | (simp; done) | (simp [*]; done)), H', ⟨by have := HJ7.out; have := HJ60.out; have := HJ129.out; have := HK4.out; have := HJ164.out; omega⟩, ⟨nR HO_638002⟩, ⟨nR HO_645002⟩, ⟨nR HO_657002⟩, ⟨nR HO_664002⟩, ⟨nR HO_671002⟩, ⟨nK BK628⟩, ⟨nK BK629⟩, ⟨nK BK630⟩, ⟨nK BK637⟩, ⟨nK BK644⟩, ⟨nK BK656⟩, ⟨nK BK663⟩, ⟨nK BK670⟩, ⟨nC HB⟩⟩
                 · rw [if_neg c162] at H
                   have c162b0 : decide (x26_4 ≤ (l0_2.length : Int)) = false := decide_eq_false c162
                   clear c162
                   replace H := Option.bind_eq_some_iff.mp H
                   obtain ⟨t683, A1900, H⟩ := H
                   replace H : (if t683 = true then (if t678 = true then (if t677 ≤ (wrap64 (t672 + t674)) then (if x25_4 = true then ((kimberlitelaw03_alive.f).bind fun t684 => (some t684)) else (some false)) else (some false)) else (some false)) else (some false)) = some r := H
                   have A190 := Aside0.mk A1900
                   clear A1900
                   by_cases c191 : t683 = true
                   · subst c191
                     have H1 : (if t678 = true then (if t677 ≤ (wrap64 (t672 + t674)) then (if x25_4 = true then ((kimberlitelaw03_alive.f).bind fun t684 => (some t684)) else (some false)) else (some false)) else (some false)) = some r := by rw [if_pos rfl] at H; exact H
                     clear H
                     have H := H1
                     clear H1
                     by_cases c192 : t678 = true
                     · subst c192
                       have H1 : (if t677 ≤ (wrap64 (t672 + t674)) then (if x25_4 = true then ((kimberlitelaw03_alive.f).bind fun t684 => (some t684)) else (some false)) else (some false)) = some r := by rw [if_pos rfl] at H; exact H
                       clear H
                       have H := H1
                       clear H1
                       by_cases c193 : t677 ≤ (wrap64 (t672 + t674))
                       · rw [if_pos c193] at H
                         have c193b0 : decide (t677 ≤ (wrap64 (t672 + t674))) = true := decide_eq_true c193
                         clear c193
                         by_cases c194 : x25_4 = true
                         · subst c194
                           have H1 : ((kimberlitelaw03_alive.f).bind fun t684 => (some t684)) = some r := by rw [if_pos rfl] at H; exact H
                           clear H
                           have H := H1
                           clear H1
                           replace H := Option.bind_eq_some_iff.mp H
                           obtain ⟨t684, A1950, H⟩ := H
                           replace H : (some t684) = some r := H
                           have A195 := Aside0.mk A1950
                           clear A1950
                           obtain rfl := Option.some.inj H
                           have hnb196 := NB628_629.out
                           have hnc196 := NB629_628.out
                           have hnb197 := NB628_630.out
                           have hnc197 := NB630_628.out
                           have hnb198 := NB628_637.out
                           have hnc198 := NB637_628.out
                           have hnb199 := NB628_644.out
                           have hnc199 := NB644_628.out
                           have hnb200 := NB628_656.out
                           have hnc200 := NB656_628.out
                           have hnb201 := NB628_663.out
                           have hnc201 := NB663_628.out
                           have hnb202 := NB628_670.out
                           have hnc202 := NB670_628.out
                           have hcz203_0 : wr.cell? ⟨gb628, 0, none⟩ = some (.int .i64 a0_0) := (blk_cell BK628.out 0).trans rfl
                           have hcz203_1 : wr.cell? ⟨gb628, 1, none⟩ = some (.int .i64 a0_1) := (blk_cell BK628.out 1).trans rfl
                           have hcz203_2 : wr.cell? ⟨gb628, 2, none⟩ = some (.slice A0_2 l0_2.length c0_2) := (blk_cell BK628.out 2).trans rfl
                           have hfz203_0 := blk_frozen BK628.out 0
                           have hfz203_1 := blk_frozen BK628.out 1
                           have hfz203_2 := blk_frozen BK628.out 2
                           have hnb204 := NB637_629.out
                           have hnc204 := NB629_637.out
                           have hnb205 := NB637_630.out
                           have hnc205 := NB630_637.out
                           have hnb206 := NB637_644.out
                           have hnc206 := NB644_637.out
                           have hnb207 := NB637_656.out
                           have hnc207 := NB656_637.out
                           have hnb208 := NB637_663.out
                           have hnc208 := NB663_637.out
                           have hnb209 := NB637_670.out
                           have hnc209 := NB670_637.out
                           have hcz210_0 : wr.cell? ⟨gb637, 0, none⟩ = some (.int .i64 t631) := (blk_cell BK637.out 0).trans rfl
                           have hcz210_1 : wr.cell? ⟨gb637, 1, none⟩ = some (.int .i64 t632) := (blk_cell BK637.out 1).trans rfl
                           have hcz210_2 : wr.cell? ⟨gb637, 2, none⟩ = some (.slice Ao23 t633.length co23) := (blk_cell BK637.out 2).trans rfl
                           have hfz210_0 := blk_frozen BK637.out 0
                           have hfz210_1 := blk_frozen BK637.out 1
                           have hfz210_2 := blk_frozen BK637.out 2
                           go_wp2_with (first | ((with_reducible refine gate_callee (f := 16) rfl ?_); refine goesL_ (some 184) rfl rfl Try.func16 (by kernel_rfl) rfl #[.agg #[.int .i64 t631, .int .i64 t632, .slice Ao23 t633.length co23]] rfl (by (try simp only [List.map_toArray, List.map_cons, List.map_nil]); first | done | rfl | (simp only [List.length_drop, List.length_take]; rfl)) ?_; (with_reducible refine (curve_Valid.calls t631 t632 _ _ t633 true _ ?side1 ?side2 A190.out).mono ?_); (case side1 => repeat (first | exact (Kd.R_reads' HO_638002.out).2.2 | (with_reducible refine Kd.C_alloc ?_ _) | (with_reducible refine Kd.C_drewN ?_ _) | (with_reducible refine Kd.C_drew ?_))); (case side2 => exact (Kd.R_reads' HO_638002.out).2.1); rintro e w211 ⟨rfl, hb⟩; refine ⟨_, rfl, ?_⟩; have n0_ := Aside0.mk (Kd.R_below (nR HO_638002) hb); have n1_ := Aside0.mk (Kd.R_below (nR HO_645002) hb); have n2_ := Aside0.mk (Kd.R_below (nR HO_657002) hb); have n3_ := Aside0.mk (Kd.R_below (nR HO_664002) hb); have n4_ := Aside0.mk (Kd.R_below (nR HO_671002) hb); have n5_ := Aside0.mk (nB BK628 hb); have n6_ := Aside0.mk (nB BK629 hb); have n7_ := Aside0.mk (nB BK630 hb); have n8_ := Aside0.mk (nB BK637 hb); have n9_ := Aside0.mk (nB BK644 hb); have n10_ := Aside0.mk (nB BK656 hb); have n11_ := Aside0.mk (nB BK663 hb); have n12_ := Aside0.mk (nB BK670 hb); have n13_ := Aside0.mk (below_step (nC HB) hb); clear HO_638002; clear HO_645002; clear HO_657002; clear HO_664002; clear HO_671002; clear BK628; clear BK629; clear BK630; clear BK637; clear BK644; clear BK656; clear BK663; clear BK670; clear HB; have HO_638002 := n0_; have HO_645002 := n1_; have HO_657002 := n2_; have HO_664002 := n3_; have HO_671002 := n4_; have BK628 := n5_; have BK629 := n6_; have BK630 := n7_; have BK637 := n8_; have BK644 := n9_; have BK656 := n10_; have BK663 := n11_; have BK670 := n12_; have HB := n13_; clear n0_ n1_ n2_ n3_ n4_ n5_ n6_ n7_ n8_ n9_ n10_ n11_ n12_ n13_; (try clear hb); (try clear hb2); (try clear hk); (try clear hi)) | (go_at_call 17; (with_reducible refine (kimberlitelaw03_alive.calls  t684 _ A195.out).mono ?_); rintro e w212 ⟨rfl, hb⟩; have n0_ := Aside0.mk (Kd.R_below (nR HO_638002) hb); have n1_ := Aside0.mk (Kd.R_below (nR HO_645002) hb); have n2_ := Aside0.mk (Kd.R_below (nR HO_657002) hb); have n3_ := Aside0.mk (Kd.R_below (nR HO_664002) hb); have n4_ := Aside0.mk (Kd.R_below (nR HO_671002) hb); have n5_ := Aside0.mk (nB BK628 hb); have n6_ := Aside0.mk (nB BK629 hb); have n7_ := Aside0.mk (nB BK630 hb); have n8_ := Aside0.mk (nB BK637 hb); have n9_ := Aside0.mk (nB BK644 hb); have n10_ := Aside0.mk (nB BK656 hb); have n11_ := Aside0.mk (nB BK663 hb); have n12_ := Aside0.mk (nB BK670 hb); have n13_ := Aside0.mk (below_step (nC HB) hb); clear HO_638002; clear HO_645002; clear HO_657002; clear HO_664002; clear HO_671002; clear BK628; clear BK629; clear BK630; clear BK637; clear BK644; clear BK656; clear BK663; clear BK670; clear HB; have HO_638002 := n0_; have HO_645002 := n1_; have HO_657002 := n2_; have HO_664002 := n3_; have HO_671002 := n4_; have BK628 := n5_; have BK629 := n6_; have BK630 := n7_; have BK637 := n8_; have BK644 := n9_; have BK656 := n10_; have BK663 := n11_; have BK670 := n12_; have HB := n13_; clear n0_ n1_ n2_ n3_ n4_ n5_ n6_ n7_ n8_ n9_ n10_ n11_ n12_ n13_; (try clear hb); (try clear hb2); (try clear hk); (try clear hi)))
                           go_ret
                           exact ⟨by first | rfl | (simp [errW_none, errW_some] <;> rfl) | (simp [*, errW_none, errW_some] <;> rfl), nC HB⟩
                         · replace c194 := Bool.eq_false_iff.mpr c194
                           subst c194
                           have H1 : (some false) = some r := by rw [if_neg (show ¬ (false = true) by decide)] at H; exact H
                           clear H
                           have H := H1
                           clear H1
                           obtain rfl := Option.some.inj H
                           have hnb213 := NB628_629.out
                           have hnc213 := NB629_628.out
                           have hnb214 := NB628_630.out
                           have hnc214 := NB630_628.out
                           have hnb215 := NB628_637.out
                           have hnc215 := NB637_628.out
                           have hnb216 := NB628_644.out
                           have hnc216 := NB644_628.out
                           have hnb217 := NB628_656.out
                           have hnc217 := NB656_628.out
                           have hnb218 := NB628_663.out
                           have hnc218 := NB663_628.out
                           have hnb219 := NB628_670.out
                           have hnc219 := NB670_628.out
                           have hcz220_0 : wr.cell? ⟨gb628, 0, none⟩ = some (.int .i64 a0_0) := (blk_cell BK628.out 0).trans rfl
                           have hcz220_1 : wr.cell? ⟨gb628, 1, none⟩ = some (.int .i64 a0_1) := (blk_cell BK628.out 1).trans rfl
                           have hcz220_2 : wr.cell? ⟨gb628, 2, none⟩ = some (.slice A0_2 l0_2.length c0_2) := (blk_cell BK628.out 2).trans rfl
                           have hfz220_0 := blk_frozen BK628.out 0
                           have hfz220_1 := blk_frozen BK628.out 1
                           have hfz220_2 := blk_frozen BK628.out 2
                           have hnb221 := NB637_629.out
                           have hnc221 := NB629_637.out
                           have hnb222 := NB637_630.out
                           have hnc222 := NB630_637.out
                           have hnb223 := NB637_644.out
                           have hnc223 := NB644_637.out
                           have hnb224 := NB637_656.out
                           have hnc224 := NB656_637.out
                           have hnb225 := NB637_663.out
                           have hnc225 := NB663_637.out
                           have hnb226 := NB637_670.out
                           have hnc226 := NB670_637.out
                           have hcz227_0 : wr.cell? ⟨gb637, 0, none⟩ = some (.int .i64 t631) := (blk_cell BK637.out 0).trans rfl
                           have hcz227_1 : wr.cell? ⟨gb637, 1, none⟩ = some (.int .i64 t632) := (blk_cell BK637.out 1).trans rfl
                           have hcz227_2 : wr.cell? ⟨gb637, 2, none⟩ = some (.slice Ao23 t633.length co23) := (blk_cell BK637.out 2).trans rfl
                           have hfz227_0 := blk_frozen BK637.out 0
                           have hfz227_1 := blk_frozen BK637.out 1
                           have hfz227_2 := blk_frozen BK637.out 2
                           go_wp2_with (first | ((with_reducible refine gate_callee (f := 16) rfl ?_); refine goesL_ (some 184) rfl rfl Try.func16 (by kernel_rfl) rfl #[.agg #[.int .i64 t631, .int .i64 t632, .slice Ao23 t633.length co23]] rfl (by (try simp only [List.map_toArray, List.map_cons, List.map_nil]); first | done | rfl | (simp only [List.length_drop, List.length_take]; rfl)) ?_; (with_reducible refine (curve_Valid.calls t631 t632 _ _ t633 true _ ?side1 ?side2 A190.out).mono ?_); (case side1 => repeat (first | exact (Kd.R_reads' HO_638002.out).2.2 | (with_reducible refine Kd.C_alloc ?_ _) | (with_reducible refine Kd.C_drewN ?_ _) | (with_reducible refine Kd.C_drew ?_))); (case side2 => exact (Kd.R_reads' HO_638002.out).2.1); rintro e w228 ⟨rfl, hb⟩; refine ⟨_, rfl, ?_⟩; have n0_ := Aside0.mk (Kd.R_below (nR HO_638002) hb); have n1_ := Aside0.mk (Kd.R_below (nR HO_645002) hb); have n2_ := Aside0.mk (Kd.R_below (nR HO_657002) hb); have n3_ := Aside0.mk (Kd.R_below (nR HO_664002) hb); have n4_ := Aside0.mk (Kd.R_below (nR HO_671002) hb); have n5_ := Aside0.mk (nB BK628 hb); have n6_ := Aside0.mk (nB BK629 hb); have n7_ := Aside0.mk (nB BK630 hb); have n8_ := Aside0.mk (nB BK637 hb); have n9_ := Aside0.mk (nB BK644 hb); have n10_ := Aside0.mk (nB BK656 hb); have n11_ := Aside0.mk (nB BK663 hb); have n12_ := Aside0.mk (nB BK670 hb); have n13_ := Aside0.mk (below_step (nC HB) hb); clear HO_638002; clear HO_645002; clear HO_657002; clear HO_664002; clear HO_671002; clear BK628; clear BK629; clear BK630; clear BK637; clear BK644; clear BK656; clear BK663; clear BK670; clear HB; have HO_638002 := n0_; have HO_645002 := n1_; have HO_657002 := n2_; have HO_664002 := n3_; have HO_671002 := n4_; have BK628 := n5_; have BK629 := n6_; have BK630 := n7_; have BK637 := n8_; have BK644 := n9_; have BK656 := n10_; have BK663 := n11_; have BK670 := n12_; have HB := n13_; clear n0_ n1_ n2_ n3_ n4_ n5_ n6_ n7_ n8_ n9_ n10_ n11_ n12_ n13_; (try clear hb); (try clear hb2); (try clear hk); (try clear hi)))
                           go_ret
                           exact ⟨by first | rfl | (simp [errW_none, errW_some] <;> rfl) | (simp [*, errW_none, errW_some] <;> rfl), nC HB⟩
                       · rw [if_neg c193] at H
                         have c193b0 : decide (t677 ≤ (wrap64 (t672 + t674))) = false := decide_eq_false c193
                         clear c193
                         obtain rfl := Option.some.inj H
                         have hnb229 := NB628_629.out
                         have hnc229 := NB629_628.out
                         have hnb230 := NB628_630.out
                         have hnc230 := NB630_628.out
                         have hnb231 := NB628_637.out
                         have hnc231 := NB637_628.out
                         have hnb232 := NB628_644.out
                         have hnc232 := NB644_628.out
                         have hnb233 := NB628_656.out
                         have hnc233 := NB656_628.out
                         have hnb234 := NB628_663.out
                         have hnc234 := NB663_628.out
                         have hnb235 := NB628_670.out
                         have hnc235 := NB670_628.out
                         have hcz236_0 : wr.cell? ⟨gb628, 0, none⟩ = some (.int .i64 a0_0) := (blk_cell BK628.out 0).trans rfl
                         have hcz236_1 : wr.cell? ⟨gb628, 1, none⟩ = some (.int .i64 a0_1) := (blk_cell BK628.out 1).trans rfl
                         have hcz236_2 : wr.cell? ⟨gb628, 2, none⟩ = some (.slice A0_2 l0_2.length c0_2) := (blk_cell BK628.out 2).trans rfl
                         have hfz236_0 := blk_frozen BK628.out 0
                         have hfz236_1 := blk_frozen BK628.out 1
                         have hfz236_2 := blk_frozen BK628.out 2
                         have hnb237 := NB637_629.out
                         have hnc237 := NB629_637.out
                         have hnb238 := NB637_630.out
                         have hnc238 := NB630_637.out
                         have hnb239 := NB637_644.out
                         have hnc239 := NB644_637.out
                         have hnb240 := NB637_656.out
                         have hnc240 := NB656_637.out
                         have hnb241 := NB637_663.out
                         have hnc241 := NB663_637.out
                         have hnb242 := NB637_670.out
                         have hnc242 := NB670_637.out
                         have hcz243_0 : wr.cell? ⟨gb637, 0, none⟩ = some (.int .i64 t631) := (blk_cell BK637.out 0).trans rfl
                         have hcz243_1 : wr.cell? ⟨gb637, 1, none⟩ = some (.int .i64 t632) := (blk_cell BK637.out 1).trans rfl
                         have hcz243_2 : wr.cell? ⟨gb637, 2, none⟩ = some (.slice Ao23 t633.length co23) := (blk_cell BK637.out 2).trans rfl
                         have hfz243_0 := blk_frozen BK637.out 0
                         have hfz243_1 := blk_frozen BK637.out 1
                         have hfz243_2 := blk_frozen BK637.out 2
                         go_wp2_with (first | ((with_reducible refine gate_callee (f := 16) rfl ?_); refine goesL_ (some 184) rfl rfl Try.func16 (by kernel_rfl) rfl #[.agg #[.int .i64 t631, .int .i64 t632, .slice Ao23 t633.length co23]] rfl (by (try simp only [List.map_toArray, List.map_cons, List.map_nil]); first | done | rfl | (simp only [List.length_drop, List.length_take]; rfl)) ?_; (with_reducible refine (curve_Valid.calls t631 t632 _ _ t633 true _ ?side1 ?side2 A190.out).mono ?_); (case side1 => repeat (first | exact (Kd.R_reads' HO_638002.out).2.2 | (with_reducible refine Kd.C_alloc ?_ _) | (with_reducible refine Kd.C_drewN ?_ _) | (with_reducible refine Kd.C_drew ?_))); (case side2 => exact (Kd.R_reads' HO_638002.out).2.1); rintro e w244 ⟨rfl, hb⟩; refine ⟨_, rfl, ?_⟩; have n0_ := Aside0.mk (Kd.R_below (nR HO_638002) hb); have n1_ := Aside0.mk (Kd.R_below (nR HO_645002) hb); have n2_ := Aside0.mk (Kd.R_below (nR HO_657002) hb); have n3_ := Aside0.mk (Kd.R_below (nR HO_664002) hb); have n4_ := Aside0.mk (Kd.R_below (nR HO_671002) hb); have n5_ := Aside0.mk (nB BK628 hb); have n6_ := Aside0.mk (nB BK629 hb); have n7_ := Aside0.mk (nB BK630 hb); have n8_ := Aside0.mk (nB BK637 hb); have n9_ := Aside0.mk (nB BK644 hb); have n10_ := Aside0.mk (nB BK656 hb); have n11_ := Aside0.mk (nB BK663 hb); have n12_ := Aside0.mk (nB BK670 hb); have n13_ := Aside0.mk (below_step (nC HB) hb); clear HO_638002; clear HO_645002; clear HO_657002; clear HO_664002; clear HO_671002; clear BK628; clear BK629; clear BK630; clear BK637; clear BK644; clear BK656; clear BK663; clear BK670; clear HB; have HO_638002 := n0_; have HO_645002 := n1_; have HO_657002 := n2_; have HO_664002 := n3_; have HO_671002 := n4_; have BK628 := n5_; have BK629 := n6_; have BK630 := n7_; have BK637 := n8_; have BK644 := n9_; have BK656 := n10_; have BK663 := n11_; have BK670 := n12_; have HB := n13_; clear n0_ n1_ n2_ n3_ n4_ n5_ n6_ n7_ n8_ n9_ n10_ n11_ n12_ n13_; (try clear hb); (try clear hb2); (try clear hk); (try clear hi)))
                         go_ret
                         exact ⟨by first | rfl | (simp [errW_none, errW_some] <;> rfl) | (simp [*, errW_none, errW_some] <;> rfl), nC HB⟩
                     · replace c192 := Bool.eq_false_iff.mpr c192
                       subst c192
                       have H1 : (some false) = some r := by rw [if_neg (show ¬ (false = true) by decide)] at H; exact H
                       clear H
                       have H := H1
                       clear H1
                       obtain rfl := Option.some.inj H
                       have hnb245 := NB628_629.out
                       have hnc245 := NB629_628.out
                       have hnb246 := NB628_630.out
                       have hnc246 := NB630_628.out
                       have hnb247 := NB628_637.out
                       have hnc247 := NB637_628.out
                       have hnb248 := NB628_644.out
                       have hnc248 := NB644_628.out
                       have hnb249 := NB628_656.out
                       have hnc249 := NB656_628.out
                       have hnb250 := NB628_663.out
                       have hnc250 := NB663_628.out
                       have hnb251 := NB628_670.out
                       have hnc251 := NB670_628.out
                       have hcz252_0 : wr.cell? ⟨gb628, 0, none⟩ = some (.int .i64 a0_0) := (blk_cell BK628.out 0).trans rfl
                       have hcz252_1 : wr.cell? ⟨gb628, 1, none⟩ = some (.int .i64 a0_1) := (blk_cell BK628.out 1).trans rfl
                       have hcz252_2 : wr.cell? ⟨gb628, 2, none⟩ = some (.slice A0_2 l0_2.length c0_2) := (blk_cell BK628.out 2).trans rfl
                       have hfz252_0 := blk_frozen BK628.out 0
                       have hfz252_1 := blk_frozen BK628.out 1
                       have hfz252_2 := blk_frozen BK628.out 2
                       have hnb253 := NB637_629.out
                       have hnc253 := NB629_637.out
                       have hnb254 := NB637_630.out
                       have hnc254 := NB630_637.out
                       have hnb255 := NB637_644.out
                       have hnc255 := NB644_637.out
                       have hnb256 := NB637_656.out
                       have hnc256 := NB656_637.out
                       have hnb257 := NB637_663.out
                       have hnc257 := NB663_637.out
                       have hnb258 := NB637_670.out
                       have hnc258 := NB670_637.out
                       have hcz259_0 : wr.cell? ⟨gb637, 0, none⟩ = some (.int .i64 t631) := (blk_cell BK637.out 0).trans rfl
                       have hcz259_1 : wr.cell? ⟨gb637, 1, none⟩ = some (.int .i64 t632) := (blk_cell BK637.out 1).trans rfl
                       have hcz259_2 : wr.cell? ⟨gb637, 2, none⟩ = some (.slice Ao23 t633.length co23) := (blk_cell BK637.out 2).trans rfl
                       have hfz259_0 := blk_frozen BK637.out 0
                       have hfz259_1 := blk_frozen BK637.out 1
                       have hfz259_2 := blk_frozen BK637.out 2
                       go_wp2_with (first | ((with_reducible refine gate_callee (f := 16) rfl ?_); refine goesL_ (some 184) rfl rfl Try.func16 (by kernel_rfl) rfl #[.agg #[.int .i64 t631, .int .i64 t632, .slice Ao23 t633.length co23]] rfl (by (try simp only [List.map_toArray, List.map_cons, List.map_nil]); first | done | rfl | (simp only [List.length_drop, List.length_take]; rfl)) ?_; (with_reducible refine (curve_Valid.calls t631 t632 _ _ t633 true _ ?side1 ?side2 A190.out).mono ?_); (case side1 => repeat (first | exact (Kd.R_reads' HO_638002.out).2.2 | (with_reducible refine Kd.C_alloc ?_ _) | (with_reducible refine Kd.C_drewN ?_ _) | (with_reducible refine Kd.C_drew ?_))); (case side2 => exact (Kd.R_reads' HO_638002.out).2.1); rintro e w260 ⟨rfl, hb⟩; refine ⟨_, rfl, ?_⟩; have n0_ := Aside0.mk (Kd.R_below (nR HO_638002) hb); have n1_ := Aside0.mk (Kd.R_below (nR HO_645002) hb); have n2_ := Aside0.mk (Kd.R_below (nR HO_657002) hb); have n3_ := Aside0.mk (Kd.R_below (nR HO_664002) hb); have n4_ := Aside0.mk (Kd.R_below (nR HO_671002) hb); have n5_ := Aside0.mk (nB BK628 hb); have n6_ := Aside0.mk (nB BK629 hb); have n7_ := Aside0.mk (nB BK630 hb); have n8_ := Aside0.mk (nB BK637 hb); have n9_ := Aside0.mk (nB BK644 hb); have n10_ := Aside0.mk (nB BK656 hb); have n11_ := Aside0.mk (nB BK663 hb); have n12_ := Aside0.mk (nB BK670 hb); have n13_ := Aside0.mk (below_step (nC HB) hb); clear HO_638002; clear HO_645002; clear HO_657002; clear HO_664002; clear HO_671002; clear BK628; clear BK629; clear BK630; clear BK637; clear BK644; clear BK656; clear BK663; clear BK670; clear HB; have HO_638002 := n0_; have HO_645002 := n1_; have HO_657002 := n2_; have HO_664002 := n3_; have HO_671002 := n4_; have BK628 := n5_; have BK629 := n6_; have BK630 := n7_; have BK637 := n8_; have BK644 := n9_; have BK656 := n10_; have BK663 := n11_; have BK670 := n12_; have HB := n13_; clear n0_ n1_ n2_ n3_ n4_ n5_ n6_ n7_ n8_ n9_ n10_ n11_ n12_ n13_; (try clear hb); (try clear hb2); (try clear hk); (try clear hi)))
                       go_ret
                       exact ⟨by first | rfl | (simp [errW_none, errW_some] <;> rfl) | (simp [*, errW_none, errW_some] <;> rfl), nC HB⟩
                   · replace c191 := Bool.eq_false_iff.mpr c191
                     subst c191
                     have H1 : (some false) = some r := by rw [if_neg (show ¬ (false = true) by decide)] at H; exact H
                     clear H
                     have H := H1
                     clear H1
                     obtain rfl := Option.some.inj H
                     have hnb261 := NB628_629.out
                     have hnc261 := NB629_628.out
                     have hnb262 := NB628_630.out
                     have hnc262 := NB630_628.out
                     have hnb263 := NB628_637.out
                     have hnc263 := NB637_628.out
                     have hnb264 := NB628_644.out
                     have hnc264 := NB644_628.out
                     have hnb265 := NB628_656.out
                     have hnc265 := NB656_628.out
                     have hnb266 := NB628_663.out
                     have hnc266 := NB663_628.out
                     have hnb267 := NB628_670.out
                     have hnc267 := NB670_628.out
                     have hcz268_0 : wr.cell? ⟨gb628, 0, none⟩ = some (.int .i64 a0_0) := (blk_cell BK628.out 0).trans rfl
                     have hcz268_1 : wr.cell? ⟨gb628, 1, none⟩ = some (.int .i64 a0_1) := (blk_cell BK628.out 1).trans rfl
                     have hcz268_2 : wr.cell? ⟨gb628, 2, none⟩ = some (.slice A0_2 l0_2.length c0_2) := (blk_cell BK628.out 2).trans rfl
                     have hfz268_0 := blk_frozen BK628.out 0
                     have hfz268_1 := blk_frozen BK628.out 1
                     have hfz268_2 := blk_frozen BK628.out 2
                     have hnb269 := NB637_629.out
                     have hnc269 := NB629_637.out
                     have hnb270 := NB637_630.out
                     have hnc270 := NB630_637.out
                     have hnb271 := NB637_644.out
                     have hnc271 := NB644_637.out
                     have hnb272 := NB637_656.out
                     have hnc272 := NB656_637.out
                     have hnb273 := NB637_663.out
                     have hnc273 := NB663_637.out
                     have hnb274 := NB637_670.out
                     have hnc274 := NB670_637.out
                     have hcz275_0 : wr.cell? ⟨gb637, 0, none⟩ = some (.int .i64 t631) := (blk_cell BK637.out 0).trans rfl
                     have hcz275_1 : wr.cell? ⟨gb637, 1, none⟩ = some (.int .i64 t632) := (blk_cell BK637.out 1).trans rfl
                     have hcz275_2 : wr.cell? ⟨gb637, 2, none⟩ = some (.slice Ao23 t633.length co23) := (blk_cell BK637.out 2).trans rfl
                     have hfz275_0 := blk_frozen BK637.out 0
                     have hfz275_1 := blk_frozen BK637.out 1
                     have hfz275_2 := blk_frozen BK637.out 2
                     go_wp2_with (first | ((with_reducible refine gate_callee (f := 16) rfl ?_); refine goesL_ (some 184) rfl rfl Try.func16 (by kernel_rfl) rfl #[.agg #[.int .i64 t631, .int .i64 t632, .slice Ao23 t633.length co23]] rfl (by (try simp only [List.map_toArray, List.map_cons, List.map_nil]); first | done | rfl | (simp only [List.length_drop, List.length_take]; rfl)) ?_; (with_reducible refine (curve_Valid.calls t631 t632 _ _ t633 false _ ?side1 ?side2 A190.out).mono ?_); (case side1 => repeat (first | exact (Kd.R_reads' HO_638002.out).2.2 | (with_reducible refine Kd.C_alloc ?_ _) | (with_reducible refine Kd.C_drewN ?_ _) | (with_reducible refine Kd.C_drew ?_))); (case side2 => exact (Kd.R_reads' HO_638002.out).2.1); rintro e w276 ⟨rfl, hb⟩; refine ⟨_, rfl, ?_⟩; have n0_ := Aside0.mk (Kd.R_below (nR HO_638002) hb); have n1_ := Aside0.mk (Kd.R_below (nR HO_645002) hb); have n2_ := Aside0.mk (Kd.R_below (nR HO_657002) hb); have n3_ := Aside0.mk (Kd.R_below (nR HO_664002) hb); have n4_ := Aside0.mk (Kd.R_below (nR HO_671002) hb); have n5_ := Aside0.mk (nB BK628 hb); have n6_ := Aside0.mk (nB BK629 hb); have n7_ := Aside0.mk (nB BK630 hb); have n8_ := Aside0.mk (nB BK637 hb); have n9_ := Aside0.mk (nB BK644 hb); have n10_ := Aside0.mk (nB BK656 hb); have n11_ := Aside0.mk (nB BK663 hb); have n12_ := Aside0.mk (nB BK670 hb); have n13_ := Aside0.mk (below_step (nC HB) hb); clear HO_638002; clear HO_645002; clear HO_657002; clear HO_664002; clear HO_671002; clear BK628; clear BK629; clear BK630; clear BK637; clear BK644; clear BK656; clear BK663; clear BK670; clear HB; have HO_638002 := n0_; have HO_645002 := n1_; have HO_657002 := n2_; have HO_664002 := n3_; have HO_671002 := n4_; have BK628 := n5_; have BK629 := n6_; have BK630 := n7_; have BK637 := n8_; have BK644 := n9_; have BK656 := n10_; have BK663 := n11_; have BK670 := n12_; have HB := n13_; clear n0_ n1_ n2_ n3_ n4_ n5_ n6_ n7_ n8_ n9_ n10_ n11_ n12_ n13_; (try clear hb); (try clear hb2); (try clear hk); (try clear hi)))
                     go_ret
                     exact ⟨by first | rfl | (simp [errW_none, errW_some] <;> rfl) | (simp [*, errW_none, errW_some] <;> rfl), nC HB⟩
     · rw [if_neg c57] at H
       have c57b0 : (t636 == 0) = false := beq_eq_false_iff_ne.mpr c57
       have c57b1 : (t636 != 0) = true := bne_iff_ne.mpr c57
       replace H := Option.bind_eq_some_iff.mp H
       obtain ⟨t646, A2770, H⟩ := H
       replace H : (if t646 = true then ((curve_Valid.f a1_0 a1_1 l1_2).bind fun t647 => (if ((t636 == 2) == (!t647)) = true then ((kimberlitelaw03_alive.f).bind fun t648 => (some t648)) else (some false))) else (if ((t636 == 2) == true) = true then ((kimberlitelaw03_alive.f).bind fun t649 => (some t649)) else (some false))) = some r := H
       have A277 := Aside0.mk A2770
       clear A2770
       by_cases c278 : t646 = true
       · subst c278
         have H1 : ((curve_Valid.f a1_0 a1_1 l1_2).bind fun t647 => (if ((t636 == 2) == (!t647)) = true then ((kimberlitelaw03_alive.f).bind fun t648 => (some t648)) else (some false))) = some r := by rw [if_pos rfl] at H; exact H
         clear H
         have H := H1
         clear H1
         replace H := Option.bind_eq_some_iff.mp H
         obtain ⟨t647, A2790, H⟩ := H
         replace H : (if ((t636 == 2) == (!t647)) = true then ((kimberlitelaw03_alive.f).bind fun t648 => (some t648)) else (some false)) = some r := H
         have A279 := Aside0.mk A2790
         clear A2790
         by_cases c280 : ((t636 == 2) == (!t647)) = true
         · rw [if_pos c280] at H
           have c280b0 : ((t636 == 2) == (!t647)) = true := c280
           (try (have c280b1 : decide ((t636 == 2) = (!t647)) = true := by simpa using c280))
           (try (have c280b2 : ((t636 == 2) == (!t647)) = true := by simpa using c280))
           clear c280
           replace H := Option.bind_eq_some_iff.mp H
           obtain ⟨t648, A2810, H⟩ := H
           replace H : (some t648) = some r := H
           have A281 := Aside0.mk A2810
           clear A2810
           obtain rfl := Option.some.inj H
           have hnb282 := NB628_629.out
           have hnc282 := NB629_628.out
           have hnb283 := NB628_630.out
           have hnc283 := NB630_628.out
           have hnb284 := NB628_637.out
           have hnc284 := NB637_628.out
           have hnb285 := NB628_644.out
           have hnc285 := NB644_628.out
           have hcz286_0 : wc.cell? ⟨gb628, 0, none⟩ = some (.int .i64 a0_0) := (blk_cell BK628.out 0).trans rfl
           have hcz286_1 : wc.cell? ⟨gb628, 1, none⟩ = some (.int .i64 a0_1) := (blk_cell BK628.out 1).trans rfl
           have hcz286_2 : wc.cell? ⟨gb628, 2, none⟩ = some (.slice A0_2 l0_2.length c0_2) := (blk_cell BK628.out 2).trans rfl
           have hfz286_0 := blk_frozen BK628.out 0
           have hfz286_1 := blk_frozen BK628.out 1
           have hfz286_2 := blk_frozen BK628.out 2
           go_wp2_with (first | ((with_reducible refine gate_callee (f := 16) rfl ?_); refine goesL_ (some 57) rfl rfl Try.func16 (by kernel_rfl) rfl #[.agg #[.int .i64 a0_0, .int .i64 a0_1, .slice A0_2 l0_2.length c0_2]] rfl (by (try simp only [List.map_toArray, List.map_cons, List.map_nil]); first | done | rfl | (simp only [List.length_drop, List.length_take]; rfl)) ?_; (with_reducible refine (curve_Valid.calls a0_0 a0_1 _ _ l0_2 true _ ?side1 ?side2 A277.out).mono ?_); (case side1 => repeat (first | exact (Kd.C_below HR0_2.out HB.out) | (with_reducible refine Kd.C_alloc ?_ _) | (with_reducible refine Kd.C_drewN ?_ _) | (with_reducible refine Kd.C_drew ?_))); (case side2 => exact HC0_2.out); rintro e w287 ⟨rfl, hb⟩; refine ⟨_, rfl, ?_⟩; have n0_ := Aside0.mk (Kd.R_below (nR HO_638002) hb); have n1_ := Aside0.mk (Kd.R_below (nR HO_645002) hb); have n2_ := Aside0.mk (nB BK628 hb); have n3_ := Aside0.mk (nB BK629 hb); have n4_ := Aside0.mk (nB BK630 hb); have n5_ := Aside0.mk (nB BK637 hb); have n6_ := Aside0.mk (nB BK644 hb); have n7_ := Aside0.mk (below_step (nC HB) hb); clear HO_638002; clear HO_645002; clear BK628; clear BK629; clear BK630; clear BK637; clear BK644; clear HB; have HO_638002 := n0_; have HO_645002 := n1_; have BK628 := n2_; have BK629 := n3_; have BK630 := n4_; have BK637 := n5_; have BK644 := n6_; have HB := n7_; clear n0_ n1_ n2_ n3_ n4_ n5_ n6_ n7_; (try clear hb); (try clear hb2); (try clear hk); (try clear hi); have hnb288 := NB629_630.out; have hnc288 := NB630_629.out; have hnb289 := NB629_637.out; have hnc289 := NB637_629.out; have hnb290 := NB629_644.out; have hnc290 := NB644_629.out; have hcz291_0 : w287.cell? ⟨gb629, 0, none⟩ = some (.int .i64 a1_0) := (blk_cell BK629.out 0).trans rfl; have hcz291_1 : w287.cell? ⟨gb629, 1, none⟩ = some (.int .i64 a1_1) := (blk_cell BK629.out 1).trans rfl; have hcz291_2 : w287.cell? ⟨gb629, 2, none⟩ = some (.slice A1_2 l1_2.length c1_2) := (blk_cell BK629.out 2).trans rfl; have hfz291_0 := blk_frozen BK629.out 0; have hfz291_1 := blk_frozen BK629.out 1; have hfz291_2 := blk_frozen BK629.out 2) | (go_at_call 16; (with_reducible refine (curve_Valid.calls a1_0 a1_1 _ _ l1_2 t647 _ ?side1 ?side2 A279.out).mono ?_); (case side1 => repeat (first | exact (Kd.C_below HR1_2.out HB.out) | (with_reducible refine Kd.C_alloc ?_ _) | (with_reducible refine Kd.C_drewN ?_ _) | (with_reducible refine Kd.C_drew ?_))); (case side2 => exact HC1_2.out); rintro e w292 ⟨rfl, hb⟩; have n0_ := Aside0.mk (Kd.R_below (nR HO_638002) hb); have n1_ := Aside0.mk (Kd.R_below (nR HO_645002) hb); have n2_ := Aside0.mk (nB BK628 hb); have n3_ := Aside0.mk (nB BK629 hb); have n4_ := Aside0.mk (nB BK630 hb); have n5_ := Aside0.mk (nB BK637 hb); have n6_ := Aside0.mk (nB BK644 hb); have n7_ := Aside0.mk (below_step (nC HB) hb); clear HO_638002; clear HO_645002; clear BK628; clear BK629; clear BK630; clear BK637; clear BK644; clear HB; have HO_638002 := n0_; have HO_645002 := n1_; have BK628 := n2_; have BK629 := n3_; have BK630 := n4_; have BK637 := n5_; have BK644 := n6_; have HB := n7_; clear n0_ n1_ n2_ n3_ n4_ n5_ n6_ n7_; (try clear hb); (try clear hb2); (try clear hk); (try clear hi)) | (go_at_call 17; (with_reducible refine (kimberlitelaw03_alive.calls  t648 _ A281.out).mono ?_); rintro e w293 ⟨rfl, hb⟩; have n0_ := Aside0.mk (Kd.R_below (nR HO_638002) hb); have n1_ := Aside0.mk (Kd.R_below (nR HO_645002) hb); have n2_ := Aside0.mk (nB BK628 hb); have n3_ := Aside0.mk (nB BK629 hb); have n4_ := Aside0.mk (nB BK630 hb); have n5_ := Aside0.mk (nB BK637 hb); have n6_ := Aside0.mk (nB BK644 hb); have n7_ := Aside0.mk (below_step (nC HB) hb); clear HO_638002; clear HO_645002; clear BK628; clear BK629; clear BK630; clear BK637; clear BK644; clear HB; have HO_638002 := n0_; have HO_645002 := n1_; have BK628 := n2_; have BK629 := n3_; have BK630 := n4_; have BK637 := n5_; have BK644 := n6_; have HB := n7_; clear n0_ n1_ n2_ n3_ n4_ n5_ n6_ n7_; (try clear hb); (try clear hb2); (try clear hk); (try clear hi)))
           go_ret
           exact ⟨by first | rfl | (simp [errW_none, errW_some] <;> rfl) | (simp [*, errW_none, errW_some] <;> rfl), nC HB⟩
         · rw [if_neg c280] at H
           have c280b0 : ((t636 == 2) == (!t647)) = false := by simpa using c280
           (try (have c280b1 : decide ((t636 == 2) = (!t647)) = false := by simpa using c280))
           (try (have c280b2 : ((t636 == 2) == (!t647)) = false := by simpa using c280))
           (try (have c280b3 : ¬ ((t636 == 2) = (!t647)) := by simpa using c280))
           clear c280
           obtain rfl := Option.some.inj H
           have hnb294 := NB628_629.out
           have hnc294 := NB629_628.out
           have hnb295 := NB628_630.out
           have hnc295 := NB630_628.out
           have hnb296 := NB628_637.out
           have hnc296 := NB637_628.out
           have hnb297 := NB628_644.out
           have hnc297 := NB644_628.out
           have hcz298_0 : wc.cell? ⟨gb628, 0, none⟩ = some (.int .i64 a0_0) := (blk_cell BK628.out 0).trans rfl
           have hcz298_1 : wc.cell? ⟨gb628, 1, none⟩ = some (.int .i64 a0_1) := (blk_cell BK628.out 1).trans rfl
           have hcz298_2 : wc.cell? ⟨gb628, 2, none⟩ = some (.slice A0_2 l0_2.length c0_2) := (blk_cell BK628.out 2).trans rfl
           have hfz298_0 := blk_frozen BK628.out 0
           have hfz298_1 := blk_frozen BK628.out 1
           have hfz298_2 := blk_frozen BK628.out 2
           go_wp2_with (first | ((with_reducible refine gate_callee (f := 16) rfl ?_); refine goesL_ (some 57) rfl rfl Try.func16 (by kernel_rfl) rfl #[.agg #[.int .i64 a0_0, .int .i64 a0_1, .slice A0_2 l0_2.length c0_2]] rfl (by (try simp only [List.map_toArray, List.map_cons, List.map_nil]); first | done | rfl | (simp only [List.length_drop, List.length_take]; rfl)) ?_; (with_reducible refine (curve_Valid.calls a0_0 a0_1 _ _ l0_2 true _ ?side1 ?side2 A277.out).mono ?_); (case side1 => repeat (first | exact (Kd.C_below HR0_2.out HB.out) | (with_reducible refine Kd.C_alloc ?_ _) | (with_reducible refine Kd.C_drewN ?_ _) | (with_reducible refine Kd.C_drew ?_))); (case side2 => exact HC0_2.out); rintro e w299 ⟨rfl, hb⟩; refine ⟨_, rfl, ?_⟩; have n0_ := Aside0.mk (Kd.R_below (nR HO_638002) hb); have n1_ := Aside0.mk (Kd.R_below (nR HO_645002) hb); have n2_ := Aside0.mk (nB BK628 hb); have n3_ := Aside0.mk (nB BK629 hb); have n4_ := Aside0.mk (nB BK630 hb); have n5_ := Aside0.mk (nB BK637 hb); have n6_ := Aside0.mk (nB BK644 hb); have n7_ := Aside0.mk (below_step (nC HB) hb); clear HO_638002; clear HO_645002; clear BK628; clear BK629; clear BK630; clear BK637; clear BK644; clear HB; have HO_638002 := n0_; have HO_645002 := n1_; have BK628 := n2_; have BK629 := n3_; have BK630 := n4_; have BK637 := n5_; have BK644 := n6_; have HB := n7_; clear n0_ n1_ n2_ n3_ n4_ n5_ n6_ n7_; (try clear hb); (try clear hb2); (try clear hk); (try clear hi); have hnb300 := NB629_630.out; have hnc300 := NB630_629.out; have hnb301 := NB629_637.out; have hnc301 := NB637_629.out; have hnb302 := NB629_644.out; have hnc302 := NB644_629.out; have hcz303_0 : w299.cell? ⟨gb629, 0, none⟩ = some (.int .i64 a1_0) := (blk_cell BK629.out 0).trans rfl; have hcz303_1 : w299.cell? ⟨gb629, 1, none⟩ = some (.int .i64 a1_1) := (blk_cell BK629.out 1).trans rfl; have hcz303_2 : w299.cell? ⟨gb629, 2, none⟩ = some (.slice A1_2 l1_2.length c1_2) := (blk_cell BK629.out 2).trans rfl; have hfz303_0 := blk_frozen BK629.out 0; have hfz303_1 := blk_frozen BK629.out 1; have hfz303_2 := blk_frozen BK629.out 2) | (go_at_call 16; (with_reducible refine (curve_Valid.calls a1_0 a1_1 _ _ l1_2 t647 _ ?side1 ?side2 A279.out).mono ?_); (case side1 => repeat (first | exact (Kd.C_below HR1_2.out HB.out) | (with_reducible refine Kd.C_alloc ?_ _) | (with_reducible refine Kd.C_drewN ?_ _) | (with_reducible refine Kd.C_drew ?_))); (case side2 => exact HC1_2.out); rintro e w304 ⟨rfl, hb⟩; have n0_ := Aside0.mk (Kd.R_below (nR HO_638002) hb); have n1_ := Aside0.mk (Kd.R_below (nR HO_645002) hb); have n2_ := Aside0.mk (nB BK628 hb); have n3_ := Aside0.mk (nB BK629 hb); have n4_ := Aside0.mk (nB BK630 hb); have n5_ := Aside0.mk (nB BK637 hb); have n6_ := Aside0.mk (nB BK644 hb); have n7_ := Aside0.mk (below_step (nC HB) hb); clear HO_638002; clear HO_645002; clear BK628; clear BK629; clear BK630; clear BK637; clear BK644; clear HB; have HO_638002 := n0_; have HO_645002 := n1_; have BK628 := n2_; have BK629 := n3_; have BK630 := n4_; have BK637 := n5_; have BK644 := n6_; have HB := n7_; clear n0_ n1_ n2_ n3_ n4_ n5_ n6_ n7_; (try clear hb); (try clear hb2); (try clear hk); (try clear hi)))
           go_ret
           exact ⟨by first | rfl | (simp [errW_none, errW_some] <;> rfl) | (simp [*, errW_none, errW_some] <;> rfl), nC HB⟩
       · replace c278 := Bool.eq_false_iff.mpr c278
         subst c278
         have H1 : (if ((t636 == 2) == true) = true then ((kimberlitelaw03_alive.f).bind fun t649 => (some t649)) else (some false)) = some r := by rw [if_neg (show ¬ (false = true) by decide)] at H; exact H
         clear H
         have H := H1
         clear H1
         by_cases c305 : ((t636 == 2) == true) = true
         · rw [if_pos c305] at H
           have c305b0 : ((t636 == 2) == true) = true := c305
           (try (have c305b1 : decide ((t636 == 2) = true) = true := by simpa using c305))
           (try (have c305b2 : ((t636 == 2) == true) = true := by simpa using c305))
           clear c305
           replace H := Option.bind_eq_some_iff.mp H
           obtain ⟨t649, A3060, H⟩ := H
           replace H : (some t649) = some r := H
           have A306 := Aside0.mk A3060
           clear A3060
           obtain rfl := Option.some.inj H
           have hnb307 := NB628_629.out
           have hnc307 := NB629_628.out
           have hnb308 := NB628_630.out
           have hnc308 := NB630_628.out
           have hnb309 := NB628_637.out
           have hnc309 := NB637_628.out
           have hnb310 := NB628_644.out
           have hnc310 := NB644_628.out
           have hcz311_0 : wc.cell? ⟨gb628, 0, none⟩ = some (.int .i64 a0_0) := (blk_cell BK628.out 0).trans rfl
           have hcz311_1 : wc.cell? ⟨gb628, 1, none⟩ = some (.int .i64 a0_1) := (blk_cell BK628.out 1).trans rfl
           have hcz311_2 : wc.cell? ⟨gb628, 2, none⟩ = some (.slice A0_2 l0_2.length c0_2) := (blk_cell BK628.out 2).trans rfl
           have hfz311_0 := blk_frozen BK628.out 0
           have hfz311_1 := blk_frozen BK628.out 1
           have hfz311_2 := blk_frozen BK628.out 2
           go_wp2_with (first | ((with_reducible refine gate_callee (f := 16) rfl ?_); refine goesL_ (some 57) rfl rfl Try.func16 (by kernel_rfl) rfl #[.agg #[.int .i64 a0_0, .int .i64 a0_1, .slice A0_2 l0_2.length c0_2]] rfl (by (try simp only [List.map_toArray, List.map_cons, List.map_nil]); first | done | rfl | (simp only [List.length_drop, List.length_take]; rfl)) ?_; (with_reducible refine (curve_Valid.calls a0_0 a0_1 _ _ l0_2 false _ ?side1 ?side2 A277.out).mono ?_); (case side1 => repeat (first | exact (Kd.C_below HR0_2.out HB.out) | (with_reducible refine Kd.C_alloc ?_ _) | (with_reducible refine Kd.C_drewN ?_ _) | (with_reducible refine Kd.C_drew ?_))); (case side2 => exact HC0_2.out); rintro e w312 ⟨rfl, hb⟩; refine ⟨_, rfl, ?_⟩; have n0_ := Aside0.mk (Kd.R_below (nR HO_638002) hb); have n1_ := Aside0.mk (Kd.R_below (nR HO_645002) hb); have n2_ := Aside0.mk (nB BK628 hb); have n3_ := Aside0.mk (nB BK629 hb); have n4_ := Aside0.mk (nB BK630 hb); have n5_ := Aside0.mk (nB BK637 hb); have n6_ := Aside0.mk (nB BK644 hb); have n7_ := Aside0.mk (below_step (nC HB) hb); clear HO_638002; clear HO_645002; clear BK628; clear BK629; clear BK630; clear BK637; clear BK644; clear HB; have HO_638002 := n0_; have HO_645002 := n1_; have BK628 := n2_; have BK629 := n3_; have BK630 := n4_; have BK637 := n5_; have BK644 := n6_; have HB := n7_; clear n0_ n1_ n2_ n3_ n4_ n5_ n6_ n7_; (try clear hb); (try clear hb2); (try clear hk); (try clear hi)) | (go_at_call 17; (with_reducible refine (kimberlitelaw03_alive.calls  t649 _ A306.out).mono ?_); rintro e w313 ⟨rfl, hb⟩; have n0_ := Aside0.mk (Kd.R_below (nR HO_638002) hb); have n1_ := Aside0.mk (Kd.R_below (nR HO_645002) hb); have n2_ := Aside0.mk (nB BK628 hb); have n3_ := Aside0.mk (nB BK629 hb); have n4_ := Aside0.mk (nB BK630 hb); have n5_ := Aside0.mk (nB BK637 hb); have n6_ := Aside0.mk (nB BK644 hb); have n7_ := Aside0.mk (below_step (nC HB) hb); clear HO_638002; clear HO_645002; clear BK628; clear BK629; clear BK630; clear BK637; clear BK644; clear HB; have HO_638002 := n0_; have HO_645002 := n1_; have BK628 := n2_; have BK629 := n3_; have BK630 := n4_; have BK637 := n5_; have BK644 := n6_; have HB := n7_; clear n0_ n1_ n2_ n3_ n4_ n5_ n6_ n7_; (try clear hb); (try clear hb2); (try clear hk); (try clear hi)))
           go_ret
           exact ⟨by first | rfl | (simp [errW_none, errW_some] <;> rfl) | (simp [*, errW_none, errW_some] <;> rfl), nC HB⟩
         · rw [if_neg c305] at H
           have c305b0 : ((t636 == 2) == true) = false := by simpa using c305
           (try (have c305b1 : decide ((t636 == 2) = true) = false := by simpa using c305))
           (try (have c305b2 : ((t636 == 2) == true) = false := by simpa using c305))
           (try (have c305b3 : ¬ ((t636 == 2) = true) := by simpa using c305))
           clear c305
           obtain rfl := Option.some.inj H
           have hnb314 := NB628_629.out
           have hnc314 := NB629_628.out
           have hnb315 := NB628_630.out
           have hnc315 := NB630_628.out
           have hnb316 := NB628_637.out
           have hnc316 := NB637_628.out
           have hnb317 := NB628_644.out
           have hnc317 := NB644_628.out
           have hcz318_0 : wc.cell? ⟨gb628, 0, none⟩ = some (.int .i64 a0_0) := (blk_cell BK628.out 0).trans rfl
           have hcz318_1 : wc.cell? ⟨gb628, 1, none⟩ = some (.int .i64 a0_1) := (blk_cell BK628.out 1).trans rfl
           have hcz318_2 : wc.cell? ⟨gb628, 2, none⟩ = some (.slice A0_2 l0_2.length c0_2) := (blk_cell BK628.out 2).trans rfl
           have hfz318_0 := blk_frozen BK628.out 0
           have hfz318_1 := blk_frozen BK628.out 1
           have hfz318_2 := blk_frozen BK628.out 2
           go_wp2_with (first | ((with_reducible refine gate_callee (f := 16) rfl ?_); refine goesL_ (some 57) rfl rfl Try.func16 (by kernel_rfl) rfl #[.agg #[.int .i64 a0_0, .int .i64 a0_1, .slice A0_2 l0_2.length c0_2]] rfl (by (try simp only [List.map_toArray, List.map_cons, List.map_nil]); first | done | rfl | (simp only [List.length_drop, List.length_take]; rfl)) ?_; (with_reducible refine (curve_Valid.calls a0_0 a0_1 _ _ l0_2 false _ ?side1 ?side2 A277.out).mono ?_); (case side1 => repeat (first | exact (Kd.C_below HR0_2.out HB.out) | (with_reducible refine Kd.C_alloc ?_ _) | (with_reducible refine Kd.C_drewN ?_ _) | (with_reducible refine Kd.C_drew ?_))); (case side2 => exact HC0_2.out); rintro e w319 ⟨rfl, hb⟩; refine ⟨_, rfl, ?_⟩; have n0_ := Aside0.mk (Kd.R_below (nR HO_638002) hb); have n1_ := Aside0.mk (Kd.R_below (nR HO_645002) hb); have n2_ := Aside0.mk (nB BK628 hb); have n3_ := Aside0.mk (nB BK629 hb); have n4_ := Aside0.mk (nB BK630 hb); have n5_ := Aside0.mk (nB BK637 hb); have n6_ := Aside0.mk (nB BK644 hb); have n7_ := Aside0.mk (below_step (nC HB) hb); clear HO_638002; clear HO_645002; clear BK628; clear BK629; clear BK630; clear BK637; clear BK644; clear HB; have HO_638002 := n0_; have HO_645002 := n1_; have BK628 := n2_; have BK629 := n3_; have BK630 := n4_; have BK637 := n5_; have BK644 := n6_; have HB := n7_; clear n0_ n1_ n2_ n3_ n4_ n5_ n6_ n7_; (try clear hb); (try clear hb2); (try clear hk); (try clear hi)))
           go_ret
           exact ⟨by first | rfl | (simp [errW_none, errW_some] <;> rfl) | (simp [*, errW_none, errW_some] <;> rfl), nC HB⟩
end Go.Proofs.Ytingjpcgehgiiaa.Pr
end
