/- What the proof of the law needs, trimmed and merged by wip/pack.py out of the texts YtingjpcgehgiiaaPrx36. No condition. -/
import Derived.Test.YtingjpcgehgiiaaKCurveConvex0
import Derived.Test.YtingjpcgehgiiaaKCurveConvex1
import Derived.Test.YtingjpcgehgiiaaKCurveConvex2
import Derived.Test.YtingjpcgehgiiaaKCurveConvex3
import Derived.Test.YtingjpcgehgiiaaKCurveConvex4
import Derived.Test.YtingjpcgehgiiaaKCurveConvex5
section
namespace Go.Proofs.Ytingjpcgehgiiaa.Pr
open Go.RowKit Go.Proofs.YtingjpcgehgiiaaW.PrintWords Go.Proofs.YtingjpcgehgiiaaW.PrintLast Go.Proofs.YtingjpcgehgiiaaW.PrintMore
attribute [local go_sem] max2_int min2_int max_two min_two max_three min_three max_four min_four   -- for this text's walks alone
set_option linter.unusedVariables false
set_option linter.unusedSimpArgs false
mutual
def kimberlitelaw03_CurveConvex.j0 : Nat → Int → Int → Int → Int → Bool → Int → Int → List Int → Int → Int → List Int → Option (Bool)
 | 0, _, _, _, _, _, _, _, _, _, _, _ => none
 | k + 1, x2, x3, x4, x5, x30, x763000, x763001, x763002, x764000, x764001, x764002 => if x30 = true then ((curve_Add.f k x763000 x763001 x763002 x764000 x764001 x764002).bind fun bt766 => (if bt766.2.2.2 = 2 then ((kimberlitelaw03_alive.f).bind fun t773 => (some t773)) else (some false))) else ((kimberlitelaw03_at.f x763000 x763001 x763002 x5).bind fun bt774 => ((kimberlitelaw03_at.f x764000 x764001 x764002 x5).bind fun bt776 => ((curve_Add.f k x763000 x763001 x763002 x764000 x764001 x764002).bind fun bt778 => ((kimberlitelaw03_at.f bt778.1 bt778.2.1 bt778.2.2.1 x5).bind fun bt785 => (if bt778.2.2.2 = 0 then ((curve_Valid.f bt778.1 bt778.2.1 bt778.2.2.1).bind fun t787 => (if t787 = true then (if bt774.2 = true then (if (bt785.2 != bt776.2) = true then (kimberlitelaw03_CurveConvex.j1 k x2 x3 x4 x5 bt774.1 bt774.2 true x763000 x763001 x763002) else (if bt785.2 = true then (kimberlitelaw03_CurveConvex.j1 k x2 x3 x4 x5 bt774.1 bt774.2 (bt785.1 != (wrap64 (bt774.1 + bt776.1))) x763000 x763001 x763002) else (kimberlitelaw03_CurveConvex.j1 k x2 x3 x4 x5 bt774.1 bt774.2 false x763000 x763001 x763002))) else (if (bt785.2 != false) = true then (kimberlitelaw03_CurveConvex.j1 k x2 x3 x4 x5 bt774.1 bt774.2 true x763000 x763001 x763002) else (if bt785.2 = true then (kimberlitelaw03_CurveConvex.j1 k x2 x3 x4 x5 bt774.1 bt774.2 (bt785.1 != (wrap64 (bt774.1 + bt776.1))) x763000 x763001 x763002) else (kimberlitelaw03_CurveConvex.j1 k x2 x3 x4 x5 bt774.1 bt774.2 false x763000 x763001 x763002)))) else (kimberlitelaw03_CurveConvex.j1 k x2 x3 x4 x5 bt774.1 bt774.2 true x763000 x763001 x763002))) else (kimberlitelaw03_CurveConvex.j1 k x2 x3 x4 x5 bt774.1 bt774.2 false x763000 x763001 x763002))))))
def kimberlitelaw03_CurveConvex.j1 : Nat → Int → Int → Int → Int → Int → Bool → Bool → Int → Int → List Int → Option (Bool)
 | 0, _, _, _, _, _, _, _, _, _, _ => none
 | k + 1, x2, x3, x4, x5, x15, x16, x90, x763000, x763001, x763002 => if x90 = true then (some false) else ((curve_Flip.f k x763000 x763001 x763002).bind fun bt788 => ((kimberlitelaw03_at.f bt788.1 bt788.2.1 bt788.2.2.1 (wrap64 (-x5))).bind fun bt794 => (if bt788.2.2.2 = 0 then (if x5 > (-1099511627776) then ((curve_Valid.f bt788.1 bt788.2.1 bt788.2.2.1).bind fun t796 => (if t796 = true then (if (bt794.2 != x16) = true then (kimberlitelaw03_CurveConvex.j2 k x2 x3 x4 x5 x15 x16 true x763000 x763001 x763002) else (if bt794.2 = true then (kimberlitelaw03_CurveConvex.j2 k x2 x3 x4 x5 x15 x16 (bt794.1 != x15) x763000 x763001 x763002) else (kimberlitelaw03_CurveConvex.j2 k x2 x3 x4 x5 x15 x16 false x763000 x763001 x763002))) else (kimberlitelaw03_CurveConvex.j2 k x2 x3 x4 x5 x15 x16 true x763000 x763001 x763002))) else (kimberlitelaw03_CurveConvex.j2 k x2 x3 x4 x5 x15 x16 false x763000 x763001 x763002)) else (kimberlitelaw03_CurveConvex.j2 k x2 x3 x4 x5 x15 x16 false x763000 x763001 x763002))))
def kimberlitelaw03_CurveConvex.j2 : Nat → Int → Int → Int → Int → Int → Bool → Bool → Int → Int → List Int → Option (Bool)
 | 0, _, _, _, _, _, _, _, _, _, _ => none
 | k + 1, x2, x3, x4, x5, x15, x16, x126, x763000, x763001, x763002 => if x126 = true then (some false) else ((curve_Tilt.f k x763000 x763001 x763002 x2).bind fun bt797 => ((kimberlitelaw03_at.f bt797.1 bt797.2.1 bt797.2.2.1 x5).bind fun bt803 => (if bt797.2.2.2 = 0 then ((curve_Valid.f bt797.1 bt797.2.1 bt797.2.2.1).bind fun t805 => (if t805 = true then (if (bt803.2 != x16) = true then (kimberlitelaw03_CurveConvex.j3 k x3 x4 x5 x15 x16 true x763000 x763001 x763002) else (if bt803.2 = true then (kimberlitelaw03_CurveConvex.j3 k x3 x4 x5 x15 x16 (bt803.1 != (wrap64 (x15 + (wrap64 (x2 * x5))))) x763000 x763001 x763002) else (kimberlitelaw03_CurveConvex.j3 k x3 x4 x5 x15 x16 false x763000 x763001 x763002))) else (kimberlitelaw03_CurveConvex.j3 k x3 x4 x5 x15 x16 true x763000 x763001 x763002))) else (kimberlitelaw03_CurveConvex.j3 k x3 x4 x5 x15 x16 false x763000 x763001 x763002))))
def kimberlitelaw03_CurveConvex.j3 : Nat → Int → Int → Int → Int → Bool → Bool → Int → Int → List Int → Option (Bool)
 | 0, _, _, _, _, _, _, _, _, _ => none
 | k + 1, x3, x4, x5, x15, x16, x162, x763000, x763001, x763002 => if x162 = true then (some false) else ((curve_Move.f k x763000 x763001 x763002 x3 x4).bind fun bt806 => (if bt806.2.2.2 = 0 then (if x5 > (-1099511627776) then (kimberlitelaw03_CurveConvex.j4 k x3 x4 x5 x15 x16 (decide (x5 < 1099511627776)) x763000 x763001 x763002 bt806.1 bt806.2.1 bt806.2.2.1) else (kimberlitelaw03_CurveConvex.j4 k x3 x4 x5 x15 x16 false x763000 x763001 x763002 bt806.1 bt806.2.1 bt806.2.2.1)) else (kimberlitelaw03_CurveConvex.j4 k x3 x4 x5 x15 x16 false x763000 x763001 x763002 bt806.1 bt806.2.1 bt806.2.2.1)))
def kimberlitelaw03_CurveConvex.j4 : Nat → Int → Int → Int → Int → Bool → Bool → Int → Int → List Int → Int → Int → List Int → Option (Bool)
 | 0, _, _, _, _, _, _, _, _, _, _, _, _ => none
 | k + 1, x3, x4, x5, x15, x16, x179, x763000, x763001, x763002, x785000, x785001, x785002 => if x179 = true then ((kimberlitelaw03_at.f x785000 x785001 x785002 (wrap64 (x5 + x3))).bind fun bt812 => ((curve_Valid.f x785000 x785001 x785002).bind fun t814 => (if t814 = true then (if (bt812.2 != x16) = true then (kimberlitelaw03_CurveConvex.j5 k x3 x4 x5 x15 x16 true x763000 x763001 x763002) else (if bt812.2 = true then (kimberlitelaw03_CurveConvex.j5 k x3 x4 x5 x15 x16 (bt812.1 != (wrap64 (x15 + x4))) x763000 x763001 x763002) else (kimberlitelaw03_CurveConvex.j5 k x3 x4 x5 x15 x16 false x763000 x763001 x763002))) else (kimberlitelaw03_CurveConvex.j5 k x3 x4 x5 x15 x16 true x763000 x763001 x763002)))) else (kimberlitelaw03_CurveConvex.j6 k x3 x4 x5 x15 x16 x763000 x763001 x763002)
def kimberlitelaw03_CurveConvex.j6 : Nat → Int → Int → Int → Int → Bool → Int → Int → List Int → Option (Bool)
 | 0, _, _, _, _, _, _, _, _ => none
 | k + 1, x3, x4, x5, x15, x16, x763000, x763001, x763002 => (curve_Part.f x763000 x763001 x763002 x3 x4).bind fun bt815 => ((kimberlitelaw03_at.f bt815.1 bt815.2.1 bt815.2.2.1 x5).bind fun bt821 => (if bt815.2.2.2 = 0 then ((curve_Valid.f bt815.1 bt815.2.1 bt815.2.2.1).bind fun t823 => (if t823 = true then (if x16 = true then (if x5 ≥ x3 then (if (bt821.2 == (decide (x5 ≤ x4))) = true then (if bt821.2 = true then (if bt821.1 = x15 then ((kimberlitelaw03_alive.f).bind fun t824 => (some t824)) else (some false)) else ((kimberlitelaw03_alive.f).bind fun t825 => (some t825))) else (some false)) else (if (bt821.2 == false) = true then (if bt821.2 = true then (if bt821.1 = x15 then ((kimberlitelaw03_alive.f).bind fun t826 => (some t826)) else (some false)) else ((kimberlitelaw03_alive.f).bind fun t827 => (some t827))) else (some false))) else (if (bt821.2 == false) = true then (if bt821.2 = true then (if bt821.1 = x15 then ((kimberlitelaw03_alive.f).bind fun t828 => (some t828)) else (some false)) else ((kimberlitelaw03_alive.f).bind fun t829 => (some t829))) else (some false))) else (some false))) else ((kimberlitelaw03_alive.f).bind fun t830 => (some t830))))
def kimberlitelaw03_CurveConvex.j5 : Nat → Int → Int → Int → Int → Bool → Bool → Int → Int → List Int → Option (Bool)
 | 0, _, _, _, _, _, _, _, _, _ => none
 | k + 1, x3, x4, x5, x15, x16, x205, x763000, x763001, x763002 => if x205 = true then (some false) else (kimberlitelaw03_CurveConvex.j6 k x3 x4 x5 x15 x16 x763000 x763001 x763002)
end
def kimberlitelaw03_CurveConvex.f (k : Nat) (a0_0 : Int) (a0_1 : Int) (l0_2 : List Int) (a1_0 : Int) (a1_1 : Int) (l1_2 : List Int) (a2 : Int) (a3 : Int) (a4 : Int) (a5 : Int) : Option (Bool) := (curve_Valid.f a0_0 a0_1 l0_2).bind fun t764 => (if t764 = true then ((curve_Valid.f a1_0 a1_1 l1_2).bind fun t765 => (kimberlitelaw03_CurveConvex.j0 k a2 a3 a4 a5 (!t765) a0_0 a0_1 l0_2 a1_0 a1_1 l1_2)) else (kimberlitelaw03_CurveConvex.j0 k a2 a3 a4 a5 true a0_0 a0_1 l0_2 a1_0 a1_1 l1_2))
theorem kimberlitelaw03_CurveConvex.mono_l : ∀ k, (∀ y0 y1 y2 y3 y4 y5 y6 y7 y8 y9 y10, LeO (kimberlitelaw03_CurveConvex.j0 k y0 y1 y2 y3 y4 y5 y6 y7 y8 y9 y10) (kimberlitelaw03_CurveConvex.j0 (k + 1) y0 y1 y2 y3 y4 y5 y6 y7 y8 y9 y10)) ∧ (∀ y0 y1 y2 y3 y4 y5 y6 y7 y8 y9, LeO (kimberlitelaw03_CurveConvex.j1 k y0 y1 y2 y3 y4 y5 y6 y7 y8 y9) (kimberlitelaw03_CurveConvex.j1 (k + 1) y0 y1 y2 y3 y4 y5 y6 y7 y8 y9)) ∧ (∀ y0 y1 y2 y3 y4 y5 y6 y7 y8 y9, LeO (kimberlitelaw03_CurveConvex.j2 k y0 y1 y2 y3 y4 y5 y6 y7 y8 y9) (kimberlitelaw03_CurveConvex.j2 (k + 1) y0 y1 y2 y3 y4 y5 y6 y7 y8 y9)) ∧ (∀ y0 y1 y2 y3 y4 y5 y6 y7 y8, LeO (kimberlitelaw03_CurveConvex.j3 k y0 y1 y2 y3 y4 y5 y6 y7 y8) (kimberlitelaw03_CurveConvex.j3 (k + 1) y0 y1 y2 y3 y4 y5 y6 y7 y8)) ∧ (∀ y0 y1 y2 y3 y4 y5 y6 y7 y8 y9 y10 y11, LeO (kimberlitelaw03_CurveConvex.j4 k y0 y1 y2 y3 y4 y5 y6 y7 y8 y9 y10 y11) (kimberlitelaw03_CurveConvex.j4 (k + 1) y0 y1 y2 y3 y4 y5 y6 y7 y8 y9 y10 y11)) ∧ (∀ y0 y1 y2 y3 y4 y5 y6 y7, LeO (kimberlitelaw03_CurveConvex.j6 k y0 y1 y2 y3 y4 y5 y6 y7) (kimberlitelaw03_CurveConvex.j6 (k + 1) y0 y1 y2 y3 y4 y5 y6 y7)) ∧ (∀ y0 y1 y2 y3 y4 y5 y6 y7 y8, LeO (kimberlitelaw03_CurveConvex.j5 k y0 y1 y2 y3 y4 y5 y6 y7 y8) (kimberlitelaw03_CurveConvex.j5 (k + 1) y0 y1 y2 y3 y4 y5 y6 y7 y8))
 | 0 => ⟨fun _ _ _ _ _ _ _ _ _ _ _ r h => by simp [kimberlitelaw03_CurveConvex.j0] at h, fun _ _ _ _ _ _ _ _ _ _ r h => by simp [kimberlitelaw03_CurveConvex.j1] at h, fun _ _ _ _ _ _ _ _ _ _ r h => by simp [kimberlitelaw03_CurveConvex.j2] at h, fun _ _ _ _ _ _ _ _ _ r h => by simp [kimberlitelaw03_CurveConvex.j3] at h, fun _ _ _ _ _ _ _ _ _ _ _ _ r h => by simp [kimberlitelaw03_CurveConvex.j4] at h, fun _ _ _ _ _ _ _ _ r h => by simp [kimberlitelaw03_CurveConvex.j6] at h, fun _ _ _ _ _ _ _ _ _ r h => by simp [kimberlitelaw03_CurveConvex.j5] at h⟩
 | k + 1 => by
  obtain ⟨ih0, ih1, ih2, ih3, ih4, ih5, ih6⟩ := kimberlitelaw03_CurveConvex.mono_l k
  refine ⟨?_, ?_, ?_, ?_, ?_, ?_, ?_⟩
  · intro y0 y1 y2 y3 y4 y5 y6 y7 y8 y9 y10
    unfold kimberlitelaw03_CurveConvex.j0
    repeat' first
    | (with_reducible exact ih0 _ _ _ _ _ _ _ _ _ _ _)
    | (with_reducible exact ih1 _ _ _ _ _ _ _ _ _ _)
    | (with_reducible exact ih2 _ _ _ _ _ _ _ _ _ _)
    | (with_reducible exact ih3 _ _ _ _ _ _ _ _ _)
    | (with_reducible exact ih4 _ _ _ _ _ _ _ _ _ _ _ _)
    | (with_reducible exact ih5 _ _ _ _ _ _ _ _)
    | (with_reducible exact ih6 _ _ _ _ _ _ _ _ _)
    | (with_reducible exact curve_Add.mono _ _ _ _ _ _ _)
    | (with_reducible exact curve_Flip.mono _ _ _ _)
    | (with_reducible exact curve_Move.mono _ _ _ _ _ _)
    | (with_reducible exact curve_Tilt.mono _ _ _ _ _)
    | (with_reducible exact LeO.refl _)
    | (with_reducible exact LeO.none _)
    | (with_reducible refine LeO.ite ?_ ?_)
    | (with_reducible refine LeO.bind ?_ (fun _ => ?_))
    | exact ih0 _ _ _ _ _ _ _ _ _ _ _
    | exact ih1 _ _ _ _ _ _ _ _ _ _
    | exact ih2 _ _ _ _ _ _ _ _ _ _
    | exact ih3 _ _ _ _ _ _ _ _ _
    | exact ih4 _ _ _ _ _ _ _ _ _ _ _ _
    | exact ih5 _ _ _ _ _ _ _ _
    | exact ih6 _ _ _ _ _ _ _ _ _
    | exact curve_Add.mono _ _ _ _ _ _ _
    | exact curve_Flip.mono _ _ _ _
    | exact curve_Move.mono _ _ _ _ _ _
    | exact curve_Tilt.mono _ _ _ _ _
    | exact LeO.none _
    | refine LeO.ite ?_ ?_
    | refine LeO.bind ?_ (fun _ => ?_)
  · intro y0 y1 y2 y3 y4 y5 y6 y7 y8 y9
    unfold kimberlitelaw03_CurveConvex.j1
    repeat' first
    | (with_reducible exact ih0 _ _ _ _ _ _ _ _ _ _ _)
    | (with_reducible exact ih1 _ _ _ _ _ _ _ _ _ _)
    | (with_reducible exact ih2 _ _ _ _ _ _ _ _ _ _)
    | (with_reducible exact ih3 _ _ _ _ _ _ _ _ _)
    | (with_reducible exact ih4 _ _ _ _ _ _ _ _ _ _ _ _)
    | (with_reducible exact ih5 _ _ _ _ _ _ _ _)
    | (with_reducible exact ih6 _ _ _ _ _ _ _ _ _)
    | (with_reducible exact curve_Add.mono _ _ _ _ _ _ _)
    | (with_reducible exact curve_Flip.mono _ _ _ _)
    | (with_reducible exact curve_Move.mono _ _ _ _ _ _)
    | (with_reducible exact curve_Tilt.mono _ _ _ _ _)
    | (with_reducible exact LeO.refl _)
    | (with_reducible exact LeO.none _)
    | (with_reducible refine LeO.ite ?_ ?_)
    | (with_reducible refine LeO.bind ?_ (fun _ => ?_))
    | exact ih0 _ _ _ _ _ _ _ _ _ _ _
    | exact ih1 _ _ _ _ _ _ _ _ _ _
    | exact ih2 _ _ _ _ _ _ _ _ _ _
    | exact ih3 _ _ _ _ _ _ _ _ _
    | exact ih4 _ _ _ _ _ _ _ _ _ _ _ _
    | exact ih5 _ _ _ _ _ _ _ _
    | exact ih6 _ _ _ _ _ _ _ _ _
    | exact curve_Add.mono _ _ _ _ _ _ _
    | exact curve_Flip.mono _ _ _ _
    | exact curve_Move.mono _ _ _ _ _ _
    | exact curve_Tilt.mono _ _ _ _ _
    | exact LeO.none _
    | refine LeO.ite ?_ ?_
    | refine LeO.bind ?_ (fun _ => ?_)
  · intro y0 y1 y2 y3 y4 y5 y6 y7 y8 y9
    unfold kimberlitelaw03_CurveConvex.j2
    repeat' first
    | (with_reducible exact ih0 _ _ _ _ _ _ _ _ _ _ _)
    | (with_reducible exact ih1 _ _ _ _ _ _ _ _ _ _)
    | (with_reducible exact ih2 _ _ _ _ _ _ _ _ _ _)
    | (with_reducible exact ih3 _ _ _ _ _ _ _ _ _)
    | (with_reducible exact ih4 _ _ _ _ _ _ _ _ _ _ _ _)
    | (with_reducible exact ih5 _ _ _ _ _ _ _ _)
    | (with_reducible exact ih6 _ _ _ _ _ _ _ _ _)
    | (with_reducible exact curve_Add.mono _ _ _ _ _ _ _)
    | (with_reducible exact curve_Flip.mono _ _ _ _)
    | (with_reducible exact curve_Move.mono _ _ _ _ _ _)
    | (with_reducible exact curve_Tilt.mono _ _ _ _ _)
    | (with_reducible exact LeO.refl _)
    | (with_reducible exact LeO.none _)
    | (with_reducible refine LeO.ite ?_ ?_)
    | (with_reducible refine LeO.bind ?_ (fun _ => ?_))
    | exact ih0 _ _ _ _ _ _ _ _ _ _ _
    | exact ih1 _ _ _ _ _ _ _ _ _ _
    | exact ih2 _ _ _ _ _ _ _ _ _ _
    | exact ih3 _ _ _ _ _ _ _ _ _
    | exact ih4 _ _ _ _ _ _ _ _ _ _ _ _
    | exact ih5 _ _ _ _ _ _ _ _
    | exact ih6 _ _ _ _ _ _ _ _ _
    | exact curve_Add.mono _ _ _ _ _ _ _
    | exact curve_Flip.mono _ _ _ _
    | exact curve_Move.mono _ _ _ _ _ _
    | exact curve_Tilt.mono _ _ _ _ _
    | exact LeO.none _
    | refine LeO.ite ?_ ?_
    | refine LeO.bind ?_ (fun _ => ?_)
  · intro y0 y1 y2 y3 y4 y5 y6 y7 y8
    unfold kimberlitelaw03_CurveConvex.j3
    repeat' first
    | (with_reducible exact ih0 _ _ _ _ _ _ _ _ _ _ _)
    | (with_reducible exact ih1 _ _ _ _ _ _ _ _ _ _)
    | (with_reducible exact ih2 _ _ _ _ _ _ _ _ _ _)
    | (with_reducible exact ih3 _ _ _ _ _ _ _ _ _)
    | (with_reducible exact ih4 _ _ _ _ _ _ _ _ _ _ _ _)
    | (with_reducible exact ih5 _ _ _ _ _ _ _ _)
    | (with_reducible exact ih6 _ _ _ _ _ _ _ _ _)
    | (with_reducible exact curve_Add.mono _ _ _ _ _ _ _)
    | (with_reducible exact curve_Flip.mono _ _ _ _)
    | (with_reducible exact curve_Move.mono _ _ _ _ _ _)
    | (with_reducible exact curve_Tilt.mono _ _ _ _ _)
    | (with_reducible exact LeO.refl _)
    | (with_reducible exact LeO.none _)
    | (with_reducible refine LeO.ite ?_ ?_)
    | (with_reducible refine LeO.bind ?_ (fun _ => ?_))
    | exact ih0 _ _ _ _ _ _ _ _ _ _ _
    | exact ih1 _ _ _ _ _ _ _ _ _ _
    | exact ih2 _ _ _ _ _ _ _ _ _ _
    | exact ih3 _ _ _ _ _ _ _ _ _
    | exact ih4 _ _ _ _ _ _ _ _ _ _ _ _
    | exact ih5 _ _ _ _ _ _ _ _
    | exact ih6 _ _ _ _ _ _ _ _ _
    | exact curve_Add.mono _ _ _ _ _ _ _
    | exact curve_Flip.mono _ _ _ _
    | exact curve_Move.mono _ _ _ _ _ _
    | exact curve_Tilt.mono _ _ _ _ _
    | exact LeO.none _
    | refine LeO.ite ?_ ?_
    | refine LeO.bind ?_ (fun _ => ?_)
  · intro y0 y1 y2 y3 y4 y5 y6 y7 y8 y9 y10 y11
    unfold kimberlitelaw03_CurveConvex.j4
    repeat' first
    | (with_reducible exact ih0 _ _ _ _ _ _ _ _ _ _ _)
    | (with_reducible exact ih1 _ _ _ _ _ _ _ _ _ _)
    | (with_reducible exact ih2 _ _ _ _ _ _ _ _ _ _)
    | (with_reducible exact ih3 _ _ _ _ _ _ _ _ _)
    | (with_reducible exact ih4 _ _ _ _ _ _ _ _ _ _ _ _)
    | (with_reducible exact ih5 _ _ _ _ _ _ _ _)
    | (with_reducible exact ih6 _ _ _ _ _ _ _ _ _)
    | (with_reducible exact curve_Add.mono _ _ _ _ _ _ _)
    | (with_reducible exact curve_Flip.mono _ _ _ _)
    | (with_reducible exact curve_Move.mono _ _ _ _ _ _)
    | (with_reducible exact curve_Tilt.mono _ _ _ _ _)
    | (with_reducible exact LeO.refl _)
    | (with_reducible exact LeO.none _)
    | (with_reducible refine LeO.ite ?_ ?_)
    | (with_reducible refine LeO.bind ?_ (fun _ => ?_))
    | exact ih0 _ _ _ _ _ _ _ _ _ _ _
    | exact ih1 _ _ _ _ _ _ _ _ _ _
    | exact ih2 _ _ _ _ _ _ _ _ _ _
    | exact ih3 _ _ _ _ _ _ _ _ _
    | exact ih4 _ _ _ _ _ _ _ _ _ _ _ _
    | exact ih5 _ _ _ _ _ _ _ _
    | exact ih6 _ _ _ _ _ _ _ _ _
    | exact curve_Add.mono _ _ _ _ _ _ _
    | exact curve_Flip.mono _ _ _ _
    | exact curve_Move.mono _ _ _ _ _ _
    | exact curve_Tilt.mono _ _ _ _ _
    | exact LeO.none _
    | refine LeO.ite ?_ ?_
    | refine LeO.bind ?_ (fun _ => ?_)
  · intro y0 y1 y2 y3 y4 y5 y6 y7
    unfold kimberlitelaw03_CurveConvex.j6
    repeat' first
    | (with_reducible exact ih0 _ _ _ _ _ _ _ _ _ _ _)
    | (with_reducible exact ih1 _ _ _ _ _ _ _ _ _ _)
    | (with_reducible exact ih2 _ _ _ _ _ _ _ _ _ _)
    | (with_reducible exact ih3 _ _ _ _ _ _ _ _ _)
    | (with_reducible exact ih4 _ _ _ _ _ _ _ _ _ _ _ _)
    | (with_reducible exact ih5 _ _ _ _ _ _ _ _)
    | (with_reducible exact ih6 _ _ _ _ _ _ _ _ _)
    | (with_reducible exact curve_Add.mono _ _ _ _ _ _ _)
    | (with_reducible exact curve_Flip.mono _ _ _ _)
    | (with_reducible exact curve_Move.mono _ _ _ _ _ _)
    | (with_reducible exact curve_Tilt.mono _ _ _ _ _)
    | (with_reducible exact LeO.refl _)
    | (with_reducible exact LeO.none _)
    | (with_reducible refine LeO.ite ?_ ?_)
    | (with_reducible refine LeO.bind ?_ (fun _ => ?_))
    | exact ih0 _ _ _ _ _ _ _ _ _ _ _
    | exact ih1 _ _ _ _ _ _ _ _ _ _
    | exact ih2 _ _ _ _ _ _ _ _ _ _
    | exact ih3 _ _ _ _ _ _ _ _ _
    | exact ih4 _ _ _ _ _ _ _ _ _ _ _ _
    | exact ih5 _ _ _ _ _ _ _ _
    | exact ih6 _ _ _ _ _ _ _ _ _
    | exact curve_Add.mono _ _ _ _ _ _ _
    | exact curve_Flip.mono _ _ _ _
    | exact curve_Move.mono _ _ _ _ _ _
    | exact curve_Tilt.mono _ _ _ _ _
    | exact LeO.none _
    | refine LeO.ite ?_ ?_
    | refine LeO.bind ?_ (fun _ => ?_)
  · intro y0 y1 y2 y3 y4 y5 y6 y7 y8
    unfold kimberlitelaw03_CurveConvex.j5
    repeat' first
    | (with_reducible exact ih0 _ _ _ _ _ _ _ _ _ _ _)
    | (with_reducible exact ih1 _ _ _ _ _ _ _ _ _ _)
    | (with_reducible exact ih2 _ _ _ _ _ _ _ _ _ _)
    | (with_reducible exact ih3 _ _ _ _ _ _ _ _ _)
    | (with_reducible exact ih4 _ _ _ _ _ _ _ _ _ _ _ _)
    | (with_reducible exact ih5 _ _ _ _ _ _ _ _)
    | (with_reducible exact ih6 _ _ _ _ _ _ _ _ _)
    | (with_reducible exact curve_Add.mono _ _ _ _ _ _ _)
    | (with_reducible exact curve_Flip.mono _ _ _ _)
    | (with_reducible exact curve_Move.mono _ _ _ _ _ _)
    | (with_reducible exact curve_Tilt.mono _ _ _ _ _)
    | (with_reducible exact LeO.refl _)
    | (with_reducible exact LeO.none _)
    | (with_reducible refine LeO.ite ?_ ?_)
    | (with_reducible refine LeO.bind ?_ (fun _ => ?_))
    | exact ih0 _ _ _ _ _ _ _ _ _ _ _
    | exact ih1 _ _ _ _ _ _ _ _ _ _
    | exact ih2 _ _ _ _ _ _ _ _ _ _
    | exact ih3 _ _ _ _ _ _ _ _ _
    | exact ih4 _ _ _ _ _ _ _ _ _ _ _ _
    | exact ih5 _ _ _ _ _ _ _ _
    | exact ih6 _ _ _ _ _ _ _ _ _
    | exact curve_Add.mono _ _ _ _ _ _ _
    | exact curve_Flip.mono _ _ _ _
    | exact curve_Move.mono _ _ _ _ _ _
    | exact curve_Tilt.mono _ _ _ _ _
    | exact LeO.none _
    | refine LeO.ite ?_ ?_
    | refine LeO.bind ?_ (fun _ => ?_)
theorem kimberlitelaw03_CurveConvex.mono : ∀ a0 a1 a2 a3 a4 a5 a6 a7 a8 a9 k, LeO (kimberlitelaw03_CurveConvex.f k a0 a1 a2 a3 a4 a5 a6 a7 a8 a9) (kimberlitelaw03_CurveConvex.f (k + 1) a0 a1 a2 a3 a4 a5 a6 a7 a8 a9) := by
 intro a0 a1 a2 a3 a4 a5 a6 a7 a8 a9 k
 obtain ⟨ih0, ih1, ih2, ih3, ih4, ih5, ih6⟩ := kimberlitelaw03_CurveConvex.mono_l k
 unfold kimberlitelaw03_CurveConvex.f
 repeat' first
  | (with_reducible exact ih0 _ _ _ _ _ _ _ _ _ _ _)
  | (with_reducible exact ih1 _ _ _ _ _ _ _ _ _ _)
  | (with_reducible exact ih2 _ _ _ _ _ _ _ _ _ _)
  | (with_reducible exact ih3 _ _ _ _ _ _ _ _ _)
  | (with_reducible exact ih4 _ _ _ _ _ _ _ _ _ _ _ _)
  | (with_reducible exact ih5 _ _ _ _ _ _ _ _)
  | (with_reducible exact ih6 _ _ _ _ _ _ _ _ _)
  | (with_reducible exact curve_Add.mono _ _ _ _ _ _ _)
  | (with_reducible exact curve_Flip.mono _ _ _ _)
  | (with_reducible exact curve_Move.mono _ _ _ _ _ _)
  | (with_reducible exact curve_Tilt.mono _ _ _ _ _)
  | (with_reducible exact LeO.refl _)
  | (with_reducible exact LeO.none _)
  | (with_reducible refine LeO.ite ?_ ?_)
  | (with_reducible refine LeO.bind ?_ (fun _ => ?_))
  | exact ih0 _ _ _ _ _ _ _ _ _ _ _
  | exact ih1 _ _ _ _ _ _ _ _ _ _
  | exact ih2 _ _ _ _ _ _ _ _ _ _
  | exact ih3 _ _ _ _ _ _ _ _ _
  | exact ih4 _ _ _ _ _ _ _ _ _ _ _ _
  | exact ih5 _ _ _ _ _ _ _ _
  | exact ih6 _ _ _ _ _ _ _ _ _
  | exact curve_Add.mono _ _ _ _ _ _ _
  | exact curve_Flip.mono _ _ _ _
  | exact curve_Move.mono _ _ _ _ _ _
  | exact curve_Tilt.mono _ _ _ _ _
  | exact LeO.none _
  | refine LeO.ite ?_ ?_
  | refine LeO.bind ?_ (fun _ => ?_)
set_option maxHeartbeats 8000000 in
set_option maxRecDepth 100000 in
theorem kimberlitelaw03_CurveConvex.calls (k : Nat) (a0_0 : Int) (a0_1 : Int) (A0_2 : Option Addr) (c0_2 : Nat) (l0_2 : List Int) (a1_0 : Int) (a1_1 : Int) (A1_2 : Option Addr) (c1_2 : Nat) (l1_2 : List Int) (a2 : Int) (a3 : Int) (a4 : Int) (a5 : Int) (r : Bool) (w : World) (hr0_2 : Kd.C (Kd.int .i64) w A0_2 l0_2.length l0_2) (hc0_2 : l0_2.length ≤ c0_2) (hr1_2 : Kd.C (Kd.int .i64) w A1_2 l1_2.length l1_2) (hc1_2 : l1_2.length ≤ c1_2) (h : kimberlitelaw03_CurveConvex.f k a0_0 a0_1 l0_2 a1_0 a1_1 l1_2 a2 a3 a4 a5 = some r) :
 Calls Try.prog 13 #[.agg #[.int .i64 a0_0, .int .i64 a0_1, .slice A0_2 l0_2.length c0_2], .agg #[.int .i64 a1_0, .int .i64 a1_1, .slice A1_2 l1_2.length c1_2], .int .i64 a2, .int .i64 a3, .int .i64 a4, .int .i64 a5] w fun e w' => e = .returned (.bool r) ∧ Below w.heap.size w w' := by
 have hu24 := Try.underlying24
 have HR0_2 := Aside0.mk hr0_2
 have HC0_2 := Aside0.mk hc0_2
 clear hr0_2 hc0_2
 have HR1_2 := Aside0.mk hr1_2
 have HC1_2 := Aside0.mk hc1_2
 clear hr1_2 hc1_2
 have HB := Aside0.mk (Below.refl w.heap.size w)
 have H : ((curve_Valid.f a0_0 a0_1 l0_2).bind fun t764 => (if t764 = true then ((curve_Valid.f a1_0 a1_1 l1_2).bind fun t765 => (kimberlitelaw03_CurveConvex.j0 k a2 a3 a4 a5 (!t765) a0_0 a0_1 l0_2 a1_0 a1_1 l1_2)) else (kimberlitelaw03_CurveConvex.j0 k a2 a3 a4 a5 true a0_0 a0_1 l0_2 a1_0 a1_1 l1_2))) = some r := h
 clear h
 have HC7 := Aside0.mk H
 clear H
 go_enter Try.func13, Try.ntmps13
 go_upto_region 1 with (first | ((with_reducible refine gate_dst (N := 6) rfl ?_); refine box_event ?hg (N := 6) ?hd (cs := #[.int .i64 a0_0, .int .i64 a0_1, .slice A0_2 l0_2.length c0_2]) (t := 24) ?hr ?_; (case hd => rfl); (case hg => rfl); (case hr => first | (go_simp; done) | (go_simp; rfl)); intro gb762 hg w8 hbox hb; have n0_ := Aside0.mk (below_step (nC HB) hb); have n1_ := Aside0.mk (hbox); have n2_ := Aside0.mk ((by rw [hg]; exact (below_size (nC HB)) : w.heap.size ≤ gb762)); have n3_ := Aside0.mk ((by rw [hg]; exact (below_size (nC HB)) : w.heap.size ≤ gb762)); clear HB; have HB := n0_; have BK762 := n1_; have GW762 := n2_; have GE762 := n3_; clear n0_ n1_ n2_ n3_; clear hb hbox hg) | ((with_reducible refine gate_dst (N := 7) rfl ?_); refine box_event ?hg (N := 7) ?hd (cs := #[.int .i64 a1_0, .int .i64 a1_1, .slice A1_2 l1_2.length c1_2]) (t := 24) ?hr ?_; (case hd => rfl); (case hg => rfl); (case hr => first | (go_simp; done) | (go_simp; rfl)); intro gb763 hg w9 hbox hb; have n0_ := Aside0.mk (nB BK762 hb); have n1_ := Aside0.mk (below_step (nC HB) hb); have n2_ := Aside0.mk (hbox); have n3_ := Aside0.mk ((by rw [hg]; exact (below_size (nC HB)) : w.heap.size ≤ gb763)); have n4_ := Aside0.mk ((by rw [hg]; exact (below_size (nC HB)) : w.heap.size ≤ gb763)); have n5_ := Aside0.mk ((by rw [hg]; exact Nat.ne_of_lt (blk_lt (g := gb762) (o := .cells #[.int .i64 a0_0, .int .i64 a0_1, .slice A0_2 l0_2.length c0_2] 24 (0, 0)) (nK BK762)) : gb762 ≠ gb763)); have n6_ := Aside0.mk ((by rw [hg]; exact Nat.ne_of_gt (blk_lt (g := gb762) (o := .cells #[.int .i64 a0_0, .int .i64 a0_1, .slice A0_2 l0_2.length c0_2] 24 (0, 0)) (nK BK762)) : gb763 ≠ gb762)); clear BK762; clear HB; have BK762 := n0_; have HB := n1_; have BK763 := n2_; have GW763 := n3_; have GE763 := n4_; have NB762_763 := n5_; have NB763_762 := n6_; clear n0_ n1_ n2_ n3_ n4_ n5_ n6_; clear hb hbox hg))
 (try simp only [Act.put, List.setIfInBounds_toArray, List.set_cons_zero, List.set_cons_succ])
 go_cut [30] (fun v30 wc => ∃ (kq : Nat) (x30_6 : Bool), v30 = .bool x30_6 ∧ Aside0 (kimberlitelaw03_CurveConvex.j0 kq a2 a3 a4 a5 x30_6 a0_0 a0_1 l0_2 a1_0 a1_1 l1_2 = some r) ∧ Aside0 (kq ≤ k) ∧ Aside0 (wc.heap[gb762]? = some (.cells #[.int .i64 a0_0, .int .i64 a0_1, (.slice A0_2 l0_2.length c0_2)] 24 (0, 0))) ∧ Aside0 (wc.heap[gb763]? = some (.cells #[.int .i64 a1_0, .int .i64 a1_1, (.slice A1_2 l1_2.length c1_2)] 24 (0, 0))) ∧ Aside0 (Below w.heap.size w wc))
 case first =>
  as_aux_lemma =>
  have H := HC7.out
  clear HC7
  replace H := Option.bind_eq_some_iff.mp H
  obtain ⟨t764, A100, H⟩ := H
  replace H : (if t764 = true then ((curve_Valid.f a1_0 a1_1 l1_2).bind fun t765 => (kimberlitelaw03_CurveConvex.j0 k a2 a3 a4 a5 (!t765) a0_0 a0_1 l0_2 a1_0 a1_1 l1_2)) else (kimberlitelaw03_CurveConvex.j0 k a2 a3 a4 a5 true a0_0 a0_1 l0_2 a1_0 a1_1 l1_2)) = some r := H
  have A10 := Aside0.mk A100
  clear A100
  by_cases c11 : t764 = true
  · subst c11
    have H1 : ((curve_Valid.f a1_0 a1_1 l1_2).bind fun t765 => (kimberlitelaw03_CurveConvex.j0 k a2 a3 a4 a5 (!t765) a0_0 a0_1 l0_2 a1_0 a1_1 l1_2)) = some r := by rw [if_pos rfl] at H; exact H
    clear H
    have H := H1
    clear H1
    replace H := Option.bind_eq_some_iff.mp H
    obtain ⟨t765, A120, H⟩ := H
    replace H : (kimberlitelaw03_CurveConvex.j0 k a2 a3 a4 a5 (!t765) a0_0 a0_1 l0_2 a1_0 a1_1 l1_2) = some r := H
    have A12 := Aside0.mk A120
    clear A120
    have H' := Aside0.mk H
    clear H
    have hnb13 := NB762_763.out
    have hnc13 := NB763_762.out
    have hcz14_0 : w9.cell? ⟨gb762, 0, none⟩ = some (.int .i64 a0_0) := (blk_cell BK762.out 0).trans rfl
    have hcz14_1 : w9.cell? ⟨gb762, 1, none⟩ = some (.int .i64 a0_1) := (blk_cell BK762.out 1).trans rfl
    have hcz14_2 : w9.cell? ⟨gb762, 2, none⟩ = some (.slice A0_2 l0_2.length c0_2) := (blk_cell BK762.out 2).trans rfl
    have hfz14_0 := blk_frozen BK762.out 0
    have hfz14_1 := blk_frozen BK762.out 1
    have hfz14_2 := blk_frozen BK762.out 2
    go_wp2_with (first | ((with_reducible refine gate_callee (f := 16) rfl ?_); refine goesL_ (some 24) rfl rfl Try.func16 (by kernel_rfl) rfl #[.agg #[.int .i64 a0_0, .int .i64 a0_1, .slice A0_2 l0_2.length c0_2]] rfl (by (try simp only [List.map_toArray, List.map_cons, List.map_nil]); first | done | rfl | (simp only [List.length_drop, List.length_take]; rfl)) ?_; (with_reducible refine (curve_Valid.calls a0_0 a0_1 _ _ l0_2 true _ ?side1 ?side2 A10.out).mono ?_); (case side1 => repeat (first | exact (Kd.C_below HR0_2.out HB.out) | (with_reducible refine Kd.C_alloc ?_ _) | (with_reducible refine Kd.C_drewN ?_ _) | (with_reducible refine Kd.C_drew ?_))); (case side2 => exact HC0_2.out); rintro e w15 ⟨rfl, hb⟩; refine ⟨_, rfl, ?_⟩; have n0_ := Aside0.mk (nB BK762 hb); have n1_ := Aside0.mk (nB BK763 hb); have n2_ := Aside0.mk (below_step (nC HB) hb); clear BK762; clear BK763; clear HB; have BK762 := n0_; have BK763 := n1_; have HB := n2_; clear n0_ n1_ n2_; (try clear hb); (try clear hb2); (try clear hk); (try clear hi); have hcz16_0 : w15.cell? ⟨gb763, 0, none⟩ = some (.int .i64 a1_0) := (blk_cell BK763.out 0).trans rfl; have hcz16_1 : w15.cell? ⟨gb763, 1, none⟩ = some (.int .i64 a1_1) := (blk_cell BK763.out 1).trans rfl; have hcz16_2 : w15.cell? ⟨gb763, 2, none⟩ = some (.slice A1_2 l1_2.length c1_2) := (blk_cell BK763.out 2).trans rfl; have hfz16_0 := blk_frozen BK763.out 0; have hfz16_1 := blk_frozen BK763.out 1; have hfz16_2 := blk_frozen BK763.out 2) | (go_at_call 16; (with_reducible refine (curve_Valid.calls a1_0 a1_1 _ _ l1_2 t765 _ ?side1 ?side2 A12.out).mono ?_); (case side1 => repeat (first | exact (Kd.C_below HR1_2.out HB.out) | (with_reducible refine Kd.C_alloc ?_ _) | (with_reducible refine Kd.C_drewN ?_ _) | (with_reducible refine Kd.C_drew ?_))); (case side2 => exact HC1_2.out); rintro e w17 ⟨rfl, hb⟩; have n0_ := Aside0.mk (nB BK762 hb); have n1_ := Aside0.mk (nB BK763 hb); have n2_ := Aside0.mk (below_step (nC HB) hb); clear BK762; clear BK763; clear HB; have BK762 := n0_; have BK763 := n1_; have HB := n2_; clear n0_ n1_ n2_; (try clear hb); (try clear hb2); (try clear hk); (try clear hi)))
    go_meet
    case rel => exact ⟨_, (!t765), (by first | rfl | (simp; done) | (simp [*]; done)), H', ⟨by first | omega | exact Nat.le_refl _⟩, ⟨nK BK762⟩, ⟨nK BK763⟩, ⟨nC HB⟩⟩
  · replace c11 := Bool.eq_false_iff.mpr c11
    subst c11
    have H1 : (kimberlitelaw03_CurveConvex.j0 k a2 a3 a4 a5 true a0_0 a0_1 l0_2 a1_0 a1_1 l1_2) = some r := by rw [if_neg (show ¬ (false = true) by decide)] at H; exact H
    clear H
    have H := H1
    clear H1
    have H' := Aside0.mk H
    clear H
    have hnb18 := NB762_763.out
    have hnc18 := NB763_762.out
    have hcz19_0 : w9.cell? ⟨gb762, 0, none⟩ = some (.int .i64 a0_0) := (blk_cell BK762.out 0).trans rfl
    have hcz19_1 : w9.cell? ⟨gb762, 1, none⟩ = some (.int .i64 a0_1) := (blk_cell BK762.out 1).trans rfl
    have hcz19_2 : w9.cell? ⟨gb762, 2, none⟩ = some (.slice A0_2 l0_2.length c0_2) := (blk_cell BK762.out 2).trans rfl
    have hfz19_0 := blk_frozen BK762.out 0
    have hfz19_1 := blk_frozen BK762.out 1
    have hfz19_2 := blk_frozen BK762.out 2
    go_wp2_with (first | ((with_reducible refine gate_callee (f := 16) rfl ?_); refine goesL_ (some 24) rfl rfl Try.func16 (by kernel_rfl) rfl #[.agg #[.int .i64 a0_0, .int .i64 a0_1, .slice A0_2 l0_2.length c0_2]] rfl (by (try simp only [List.map_toArray, List.map_cons, List.map_nil]); first | done | rfl | (simp only [List.length_drop, List.length_take]; rfl)) ?_; (with_reducible refine (curve_Valid.calls a0_0 a0_1 _ _ l0_2 false _ ?side1 ?side2 A10.out).mono ?_); (case side1 => repeat (first | exact (Kd.C_below HR0_2.out HB.out) | (with_reducible refine Kd.C_alloc ?_ _) | (with_reducible refine Kd.C_drewN ?_ _) | (with_reducible refine Kd.C_drew ?_))); (case side2 => exact HC0_2.out); rintro e w20 ⟨rfl, hb⟩; refine ⟨_, rfl, ?_⟩; have n0_ := Aside0.mk (nB BK762 hb); have n1_ := Aside0.mk (nB BK763 hb); have n2_ := Aside0.mk (below_step (nC HB) hb); clear BK762; clear BK763; clear HB; have BK762 := n0_; have BK763 := n1_; have HB := n2_; clear n0_ n1_ n2_; (try clear hb); (try clear hb2); (try clear hk); (try clear hi)))
    go_meet
    case rel => exact ⟨_, (true), (by first | rfl | (simp; done) | (simp [*]; done)), H', ⟨by first | omega | exact Nat.le_refl _⟩, ⟨nK BK762⟩, ⟨nK BK763⟩, ⟨nC HB⟩⟩
 case rest =>
  as_aux_lemma =>
  clear HC7
  try clear c1
  try clear p2
  try clear c11
  try clear c13
  try clear c16
  try clear c18
  try clear hcz14_0
  try clear hcz14_1
  try clear hcz14_2
  try clear hcz16_0
  try clear hcz16_1
  try clear hcz16_2
  try clear hcz19_0
  try clear hcz19_1
  try clear hcz19_2
  try clear hfz14_0
  try clear hfz14_1
  try clear hfz14_2
  try clear hfz16_0
  try clear hfz16_1
  try clear hfz16_2
  try clear hfz19_0
  try clear hfz19_1
  try clear hfz19_2
  obtain ⟨kq, x30_6, rfl, HA, HJ6, BK762, BK763, HB⟩ := hcut
  cases kq with
  | zero => exact absurd HA.out (by simp [kimberlitelaw03_CurveConvex.j0])
  | succ kj6 =>
   have H := HA.out
   clear HA
   simp only [kimberlitelaw03_CurveConvex.j0] at H
   by_cases c21 : x30_6 = true
   · subst c21
     have H1 : ((curve_Add.f kj6 a0_0 a0_1 l0_2 a1_0 a1_1 l1_2).bind fun bt766 => (if bt766.2.2.2 = 2 then ((kimberlitelaw03_alive.f).bind fun t773 => (some t773)) else (some false))) = some r := by rw [if_pos rfl] at H; exact H
     clear H
     have H := H1
     clear H1
     replace H := Option.bind_eq_some_iff.mp H
     obtain ⟨⟨t766, t767, t768, t771⟩, A220, H⟩ := H
     replace H : (if t771 = 2 then ((kimberlitelaw03_alive.f).bind fun t773 => (some t773)) else (some false)) = some r := H
     have A22 := Aside0.mk A220
     clear A220
     by_cases c23 : t771 = 2
     · rw [if_pos c23] at H
       have c23b0 : (t771 == 2) = true := beq_iff_eq.mpr c23
       have c23b1 : (t771 != 2) = false := bne_eq_false_iff_eq.mpr c23
       clear c23
       replace H := Option.bind_eq_some_iff.mp H
       obtain ⟨t773, A240, H⟩ := H
       replace H : (some t773) = some r := H
       have A24 := Aside0.mk A240
       clear A240
       obtain rfl := Option.some.inj H
       have hnb25 := NB762_763.out
       have hnc25 := NB763_762.out
       have hcz26_0 : wc.cell? ⟨gb762, 0, none⟩ = some (.int .i64 a0_0) := (blk_cell BK762.out 0).trans rfl
       have hcz26_1 : wc.cell? ⟨gb762, 1, none⟩ = some (.int .i64 a0_1) := (blk_cell BK762.out 1).trans rfl
       have hcz26_2 : wc.cell? ⟨gb762, 2, none⟩ = some (.slice A0_2 l0_2.length c0_2) := (blk_cell BK762.out 2).trans rfl
       have hfz26_0 := blk_frozen BK762.out 0
       have hfz26_1 := blk_frozen BK762.out 1
       have hfz26_2 := blk_frozen BK762.out 2
       have hcz27_0 : wc.cell? ⟨gb763, 0, none⟩ = some (.int .i64 a1_0) := (blk_cell BK763.out 0).trans rfl
       have hcz27_1 : wc.cell? ⟨gb763, 1, none⟩ = some (.int .i64 a1_1) := (blk_cell BK763.out 1).trans rfl
       have hcz27_2 : wc.cell? ⟨gb763, 2, none⟩ = some (.slice A1_2 l1_2.length c1_2) := (blk_cell BK763.out 2).trans rfl
       have hfz27_0 := blk_frozen BK763.out 0
       have hfz27_1 := blk_frozen BK763.out 1
       have hfz27_2 := blk_frozen BK763.out 2
       go_wp2_with (first | ((with_reducible refine gate_callee (f := 38) rfl ?_); refine goesL_ (some 34) rfl rfl Try.func38 (by kernel_rfl) rfl #[.agg #[.int .i64 a0_0, .int .i64 a0_1, .slice A0_2 l0_2.length c0_2], .agg #[.int .i64 a1_0, .int .i64 a1_1, .slice A1_2 l1_2.length c1_2]] rfl (by (try simp only [List.map_toArray, List.map_cons, List.map_nil]); first | done | rfl | (simp only [List.length_drop, List.length_take]; rfl)) ?_; (with_reducible refine (curve_Add.calls kj6 a0_0 a0_1 _ _ l0_2 a1_0 a1_1 _ _ l1_2 t766 t767 t768 t771 _ ?side1 ?side2 ?side3 ?side4 A22.out).mono ?_); (case side1 => repeat (first | exact (Kd.C_below HR0_2.out HB.out) | (with_reducible refine Kd.C_alloc ?_ _) | (with_reducible refine Kd.C_drewN ?_ _) | (with_reducible refine Kd.C_drew ?_))); (case side2 => exact HC0_2.out); (case side3 => repeat (first | exact (Kd.C_below HR1_2.out HB.out) | (with_reducible refine Kd.C_alloc ?_ _) | (with_reducible refine Kd.C_drewN ?_ _) | (with_reducible refine Kd.C_drew ?_))); (case side4 => exact HC1_2.out); rintro e w28 ⟨v769, rfl, ho0, hb⟩; refine ⟨_, rfl, ?_⟩; have n0_ := Aside0.mk (Kd.R_lower ho0 (below_size (nC HB))); have n1_ := Aside0.mk (nB BK762 hb); have n2_ := Aside0.mk (nB BK763 hb); have n3_ := Aside0.mk (below_step (nC HB) hb); clear BK762; clear BK763; clear HB; have HO770 := n0_; have BK762 := n1_; have BK763 := n2_; have HB := n3_; clear n0_ n1_ n2_ n3_; (try clear hb); (try clear hb2); (try clear hk); (try clear hi); (try clear ho0)) | ((with_reducible refine gate_dst (N := 13) rfl ?_); refine box_event ?hg (N := 13) ?hd (cs := #[.int .i64 0, .int .i64 0, .slice none 0 0]) (t := 24) ?hr ?_; (case hd => rfl); (case hg => rfl); (case hr => first | (go_simp; done) | (go_simp; rfl)); intro gb772 hg w29 hbox hb; have n0_ := Aside0.mk (Kd.R_below (nR HO770) hb); have n1_ := Aside0.mk (nB BK762 hb); have n2_ := Aside0.mk (nB BK763 hb); have n3_ := Aside0.mk (below_step (nC HB) hb); have n4_ := Aside0.mk (hbox); have n5_ := Aside0.mk ((by rw [hg]; exact (below_size (nC HB)) : w.heap.size ≤ gb772)); have n6_ := Aside0.mk ((by rw [hg]; exact (below_size (nC HB)) : w.heap.size ≤ gb772)); have n7_ := Aside0.mk ((by rw [hg]; exact Nat.ne_of_lt (blk_lt (g := gb762) (o := .cells #[.int .i64 a0_0, .int .i64 a0_1, .slice A0_2 l0_2.length c0_2] 24 (0, 0)) (nK BK762)) : gb762 ≠ gb772)); have n8_ := Aside0.mk ((by rw [hg]; exact Nat.ne_of_gt (blk_lt (g := gb762) (o := .cells #[.int .i64 a0_0, .int .i64 a0_1, .slice A0_2 l0_2.length c0_2] 24 (0, 0)) (nK BK762)) : gb772 ≠ gb762)); have n9_ := Aside0.mk ((by rw [hg]; exact Nat.ne_of_lt (blk_lt (g := gb763) (o := .cells #[.int .i64 a1_0, .int .i64 a1_1, .slice A1_2 l1_2.length c1_2] 24 (0, 0)) (nK BK763)) : gb763 ≠ gb772)); have n10_ := Aside0.mk ((by rw [hg]; exact Nat.ne_of_gt (blk_lt (g := gb763) (o := .cells #[.int .i64 a1_0, .int .i64 a1_1, .slice A1_2 l1_2.length c1_2] 24 (0, 0)) (nK BK763)) : gb772 ≠ gb763)); clear HO770; clear BK762; clear BK763; clear HB; have HO770 := n0_; have BK762 := n1_; have BK763 := n2_; have HB := n3_; have BK772 := n4_; have GW772 := n5_; have GE772 := n6_; have NB762_772 := n7_; have NB772_762 := n8_; have NB763_772 := n9_; have NB772_763 := n10_; clear n0_ n1_ n2_ n3_ n4_ n5_ n6_ n7_ n8_ n9_ n10_; clear hb hbox hg; have hnb30 := NB772_762.out; have hnc30 := NB762_772.out; have hnb31 := NB772_763.out; have hnc31 := NB763_772.out; have hcz32_0 : w29.cell? ⟨gb772, 0, none⟩ = some (.int .i64 0) := (blk_cell BK772.out 0).trans rfl; have hcz32_1 : w29.cell? ⟨gb772, 1, none⟩ = some (.int .i64 0) := (blk_cell BK772.out 1).trans rfl; have hcz32_2 : w29.cell? ⟨gb772, 2, none⟩ = some (.slice none 0 0) := (blk_cell BK772.out 2).trans rfl; have hfz32_0 := blk_frozen BK772.out 0; have hfz32_1 := blk_frozen BK772.out 1; have hfz32_2 := blk_frozen BK772.out 2; obtain ⟨Ao33, co33, eo33⟩ := Kd.R_slice HO770.out; subst eo33) | (go_at_call 17; (with_reducible refine (kimberlitelaw03_alive.calls  t773 _ A24.out).mono ?_); rintro e w34 ⟨rfl, hb⟩; have n0_ := Aside0.mk (Kd.R_below (by (with_reducible repeat (first | apply Kd.R_alloc | apply Kd.R_drewN | apply Kd.R_drew)); exact (Kd.R_mono (Kd.R_far (p := ⟨gb772, 2, none⟩) (Kd.R_far (p := ⟨gb772, 1, none⟩) (Kd.R_far (p := ⟨gb772, 0, none⟩) (Kd.R_types HO770.out BK772.out (by decide)) (fun _ hk => hk.2) (.int .i64 t766)) (fun _ hk => hk.2) (.int .i64 t767)) (fun _ hk => hk.2) (.slice Ao33 t768.length co33)) (fun _ h_ => h_.1))) hb); have n1_ := Aside0.mk (blk_below (g := gb762) (o := .cells #[.int .i64 a0_0, .int .i64 a0_1, .slice A0_2 l0_2.length c0_2] 24 (0, 0)) (by (with_reducible repeat (first | refine blk_drewN ?_ _ | refine blk_drew ?_ | refine blk_alloc ?_ _)); refine blk_far ?_ NB762_772.out _; (with_reducible repeat (first | refine blk_drewN ?_ _ | refine blk_drew ?_ | refine blk_alloc ?_ _)); refine blk_far ?_ NB762_772.out _; (with_reducible repeat (first | refine blk_drewN ?_ _ | refine blk_drew ?_ | refine blk_alloc ?_ _)); refine blk_far ?_ NB762_772.out _; (with_reducible repeat (first | refine blk_drewN ?_ _ | refine blk_drew ?_ | refine blk_alloc ?_ _)); exact BK762.out) hb); have n2_ := Aside0.mk (blk_below (g := gb763) (o := .cells #[.int .i64 a1_0, .int .i64 a1_1, .slice A1_2 l1_2.length c1_2] 24 (0, 0)) (by (with_reducible repeat (first | refine blk_drewN ?_ _ | refine blk_drew ?_ | refine blk_alloc ?_ _)); refine blk_far ?_ NB763_772.out _; (with_reducible repeat (first | refine blk_drewN ?_ _ | refine blk_drew ?_ | refine blk_alloc ?_ _)); refine blk_far ?_ NB763_772.out _; (with_reducible repeat (first | refine blk_drewN ?_ _ | refine blk_drew ?_ | refine blk_alloc ?_ _)); refine blk_far ?_ NB763_772.out _; (with_reducible repeat (first | refine blk_drewN ?_ _ | refine blk_drew ?_ | refine blk_alloc ?_ _)); exact BK763.out) hb); have n3_ := Aside0.mk (blk_below (g := gb772) (o := .cells #[.int .i64 t766, .int .i64 t767, .slice Ao33 t768.length co33] 24 (0, 0)) (by (with_reducible repeat (first | refine blk_drewN ?_ _ | refine blk_drew ?_ | refine blk_alloc ?_ _)); refine blk_put (cs := #[.int .i64 t766, .int .i64 t767, .slice none 0 0]) ?_ 2 _ rfl; (with_reducible repeat (first | refine blk_drewN ?_ _ | refine blk_drew ?_ | refine blk_alloc ?_ _)); refine blk_put (cs := #[.int .i64 t766, .int .i64 0, .slice none 0 0]) ?_ 1 _ rfl; (with_reducible repeat (first | refine blk_drewN ?_ _ | refine blk_drew ?_ | refine blk_alloc ?_ _)); refine blk_put (cs := #[.int .i64 0, .int .i64 0, .slice none 0 0]) ?_ 0 _ rfl; (with_reducible repeat (first | refine blk_drewN ?_ _ | refine blk_drew ?_ | refine blk_alloc ?_ _)); exact BK772.out) hb); have n4_ := Aside0.mk (below_step (nC HB) hb); clear HO770; clear BK762; clear BK763; clear BK772; clear HB; have HO770 := n0_; have BK762 := n1_; have BK763 := n2_; have BK772 := n3_; have HB := n4_; clear n0_ n1_ n2_ n3_ n4_; (try clear hb); (try clear hb2); (try clear hk); (try clear hi)))
       go_ret
       exact ⟨by first | rfl | (simp [errW_none, errW_some] <;> rfl) | (simp [*, errW_none, errW_some] <;> rfl), nC HB⟩
     · rw [if_neg c23] at H
       have c23b0 : (t771 == 2) = false := beq_eq_false_iff_ne.mpr c23
       have c23b1 : (t771 != 2) = true := bne_iff_ne.mpr c23
       obtain rfl := Option.some.inj H
       have hnb35 := NB762_763.out
       have hnc35 := NB763_762.out
       have hcz36_0 : wc.cell? ⟨gb762, 0, none⟩ = some (.int .i64 a0_0) := (blk_cell BK762.out 0).trans rfl
       have hcz36_1 : wc.cell? ⟨gb762, 1, none⟩ = some (.int .i64 a0_1) := (blk_cell BK762.out 1).trans rfl
       have hcz36_2 : wc.cell? ⟨gb762, 2, none⟩ = some (.slice A0_2 l0_2.length c0_2) := (blk_cell BK762.out 2).trans rfl
       have hfz36_0 := blk_frozen BK762.out 0
       have hfz36_1 := blk_frozen BK762.out 1
       have hfz36_2 := blk_frozen BK762.out 2
       have hcz37_0 : wc.cell? ⟨gb763, 0, none⟩ = some (.int .i64 a1_0) := (blk_cell BK763.out 0).trans rfl
       have hcz37_1 : wc.cell? ⟨gb763, 1, none⟩ = some (.int .i64 a1_1) := (blk_cell BK763.out 1).trans rfl
       have hcz37_2 : wc.cell? ⟨gb763, 2, none⟩ = some (.slice A1_2 l1_2.length c1_2) := (blk_cell BK763.out 2).trans rfl
       have hfz37_0 := blk_frozen BK763.out 0
       have hfz37_1 := blk_frozen BK763.out 1
       have hfz37_2 := blk_frozen BK763.out 2
       go_wp2_with (first | ((with_reducible refine gate_callee (f := 38) rfl ?_); refine goesL_ (some 34) rfl rfl Try.func38 (by kernel_rfl) rfl #[.agg #[.int .i64 a0_0, .int .i64 a0_1, .slice A0_2 l0_2.length c0_2], .agg #[.int .i64 a1_0, .int .i64 a1_1, .slice A1_2 l1_2.length c1_2]] rfl (by (try simp only [List.map_toArray, List.map_cons, List.map_nil]); first | done | rfl | (simp only [List.length_drop, List.length_take]; rfl)) ?_; (with_reducible refine (curve_Add.calls kj6 a0_0 a0_1 _ _ l0_2 a1_0 a1_1 _ _ l1_2 t766 t767 t768 t771 _ ?side1 ?side2 ?side3 ?side4 A22.out).mono ?_); (case side1 => repeat (first | exact (Kd.C_below HR0_2.out HB.out) | (with_reducible refine Kd.C_alloc ?_ _) | (with_reducible refine Kd.C_drewN ?_ _) | (with_reducible refine Kd.C_drew ?_))); (case side2 => exact HC0_2.out); (case side3 => repeat (first | exact (Kd.C_below HR1_2.out HB.out) | (with_reducible refine Kd.C_alloc ?_ _) | (with_reducible refine Kd.C_drewN ?_ _) | (with_reducible refine Kd.C_drew ?_))); (case side4 => exact HC1_2.out); rintro e w38 ⟨v769, rfl, ho0, hb⟩; refine ⟨_, rfl, ?_⟩; have n0_ := Aside0.mk (Kd.R_lower ho0 (below_size (nC HB))); have n1_ := Aside0.mk (nB BK762 hb); have n2_ := Aside0.mk (nB BK763 hb); have n3_ := Aside0.mk (below_step (nC HB) hb); clear BK762; clear BK763; clear HB; have HO770 := n0_; have BK762 := n1_; have BK763 := n2_; have HB := n3_; clear n0_ n1_ n2_ n3_; (try clear hb); (try clear hb2); (try clear hk); (try clear hi); (try clear ho0)) | ((with_reducible refine gate_dst (N := 13) rfl ?_); refine box_event ?hg (N := 13) ?hd (cs := #[.int .i64 0, .int .i64 0, .slice none 0 0]) (t := 24) ?hr ?_; (case hd => rfl); (case hg => rfl); (case hr => first | (go_simp; done) | (go_simp; rfl)); intro gb772 hg w39 hbox hb; have n0_ := Aside0.mk (Kd.R_below (nR HO770) hb); have n1_ := Aside0.mk (nB BK762 hb); have n2_ := Aside0.mk (nB BK763 hb); have n3_ := Aside0.mk (below_step (nC HB) hb); have n4_ := Aside0.mk (hbox); have n5_ := Aside0.mk ((by rw [hg]; exact (below_size (nC HB)) : w.heap.size ≤ gb772)); have n6_ := Aside0.mk ((by rw [hg]; exact (below_size (nC HB)) : w.heap.size ≤ gb772)); have n7_ := Aside0.mk ((by rw [hg]; exact Nat.ne_of_lt (blk_lt (g := gb762) (o := .cells #[.int .i64 a0_0, .int .i64 a0_1, .slice A0_2 l0_2.length c0_2] 24 (0, 0)) (nK BK762)) : gb762 ≠ gb772)); have n8_ := Aside0.mk ((by rw [hg]; exact Nat.ne_of_gt (blk_lt (g := gb762) (o := .cells #[.int .i64 a0_0, .int .i64 a0_1, .slice A0_2 l0_2.length c0_2] 24 (0, 0)) (nK BK762)) : gb772 ≠ gb762)); have n9_ := Aside0.mk ((by rw [hg]; exact Nat.ne_of_lt (blk_lt (g := gb763) (o := .cells #[.int .i64 a1_0, .int .i64 a1_1, .slice A1_2 l1_2.length c1_2] 24 (0, 0)) (nK BK763)) : gb763 ≠ gb772)); have n10_ := Aside0.mk ((by rw [hg]; exact Nat.ne_of_gt (blk_lt (g := gb763) (o := .cells #[.int .i64 a1_0, .int .i64 a1_1, .slice A1_2 l1_2.length c1_2] 24 (0, 0)) (nK BK763)) : gb772 ≠ gb763)); clear HO770; clear BK762; clear BK763; clear HB; have HO770 := n0_; have BK762 := n1_; have BK763 := n2_; have HB := n3_; have BK772 := n4_; have GW772 := n5_; have GE772 := n6_; have NB762_772 := n7_; have NB772_762 := n8_; have NB763_772 := n9_; have NB772_763 := n10_; clear n0_ n1_ n2_ n3_ n4_ n5_ n6_ n7_ n8_ n9_ n10_; clear hb hbox hg; have hnb40 := NB772_762.out; have hnc40 := NB762_772.out; have hnb41 := NB772_763.out; have hnc41 := NB763_772.out; have hcz42_0 : w39.cell? ⟨gb772, 0, none⟩ = some (.int .i64 0) := (blk_cell BK772.out 0).trans rfl; have hcz42_1 : w39.cell? ⟨gb772, 1, none⟩ = some (.int .i64 0) := (blk_cell BK772.out 1).trans rfl; have hcz42_2 : w39.cell? ⟨gb772, 2, none⟩ = some (.slice none 0 0) := (blk_cell BK772.out 2).trans rfl; have hfz42_0 := blk_frozen BK772.out 0; have hfz42_1 := blk_frozen BK772.out 1; have hfz42_2 := blk_frozen BK772.out 2; obtain ⟨Ao43, co43, eo43⟩ := Kd.R_slice HO770.out; subst eo43))
       go_ret
       exact ⟨by first | rfl | (simp [errW_none, errW_some] <;> rfl) | (simp [*, errW_none, errW_some] <;> rfl), nC HB⟩
   · replace c21 := Bool.eq_false_iff.mpr c21
     subst c21
     have H1 : ((kimberlitelaw03_at.f a0_0 a0_1 l0_2 a5).bind fun bt774 => ((kimberlitelaw03_at.f a1_0 a1_1 l1_2 a5).bind fun bt776 => ((curve_Add.f kj6 a0_0 a0_1 l0_2 a1_0 a1_1 l1_2).bind fun bt778 => ((kimberlitelaw03_at.f bt778.1 bt778.2.1 bt778.2.2.1 a5).bind fun bt785 => (if bt778.2.2.2 = 0 then ((curve_Valid.f bt778.1 bt778.2.1 bt778.2.2.1).bind fun t787 => (if t787 = true then (if bt774.2 = true then (if (bt785.2 != bt776.2) = true then (kimberlitelaw03_CurveConvex.j1 kj6 a2 a3 a4 a5 bt774.1 bt774.2 true a0_0 a0_1 l0_2) else (if bt785.2 = true then (kimberlitelaw03_CurveConvex.j1 kj6 a2 a3 a4 a5 bt774.1 bt774.2 (bt785.1 != (wrap64 (bt774.1 + bt776.1))) a0_0 a0_1 l0_2) else (kimberlitelaw03_CurveConvex.j1 kj6 a2 a3 a4 a5 bt774.1 bt774.2 false a0_0 a0_1 l0_2))) else (if (bt785.2 != false) = true then (kimberlitelaw03_CurveConvex.j1 kj6 a2 a3 a4 a5 bt774.1 bt774.2 true a0_0 a0_1 l0_2) else (if bt785.2 = true then (kimberlitelaw03_CurveConvex.j1 kj6 a2 a3 a4 a5 bt774.1 bt774.2 (bt785.1 != (wrap64 (bt774.1 + bt776.1))) a0_0 a0_1 l0_2) else (kimberlitelaw03_CurveConvex.j1 kj6 a2 a3 a4 a5 bt774.1 bt774.2 false a0_0 a0_1 l0_2)))) else (kimberlitelaw03_CurveConvex.j1 kj6 a2 a3 a4 a5 bt774.1 bt774.2 true a0_0 a0_1 l0_2))) else (kimberlitelaw03_CurveConvex.j1 kj6 a2 a3 a4 a5 bt774.1 bt774.2 false a0_0 a0_1 l0_2)))))) = some r := by rw [if_neg (show ¬ (false = true) by decide)] at H; exact H
     clear H
     have H := H1
     clear H1
     replace H := Option.bind_eq_some_iff.mp H
     obtain ⟨⟨t774, t775⟩, A440, H⟩ := H
     replace H : ((kimberlitelaw03_at.f a1_0 a1_1 l1_2 a5).bind fun bt776 => ((curve_Add.f kj6 a0_0 a0_1 l0_2 a1_0 a1_1 l1_2).bind fun bt778 => ((kimberlitelaw03_at.f bt778.1 bt778.2.1 bt778.2.2.1 a5).bind fun bt785 => (if bt778.2.2.2 = 0 then ((curve_Valid.f bt778.1 bt778.2.1 bt778.2.2.1).bind fun t787 => (if t787 = true then (if t775 = true then (if (bt785.2 != bt776.2) = true then (kimberlitelaw03_CurveConvex.j1 kj6 a2 a3 a4 a5 t774 t775 true a0_0 a0_1 l0_2) else (if bt785.2 = true then (kimberlitelaw03_CurveConvex.j1 kj6 a2 a3 a4 a5 t774 t775 (bt785.1 != (wrap64 (t774 + bt776.1))) a0_0 a0_1 l0_2) else (kimberlitelaw03_CurveConvex.j1 kj6 a2 a3 a4 a5 t774 t775 false a0_0 a0_1 l0_2))) else (if (bt785.2 != false) = true then (kimberlitelaw03_CurveConvex.j1 kj6 a2 a3 a4 a5 t774 t775 true a0_0 a0_1 l0_2) else (if bt785.2 = true then (kimberlitelaw03_CurveConvex.j1 kj6 a2 a3 a4 a5 t774 t775 (bt785.1 != (wrap64 (t774 + bt776.1))) a0_0 a0_1 l0_2) else (kimberlitelaw03_CurveConvex.j1 kj6 a2 a3 a4 a5 t774 t775 false a0_0 a0_1 l0_2)))) else (kimberlitelaw03_CurveConvex.j1 kj6 a2 a3 a4 a5 t774 t775 true a0_0 a0_1 l0_2))) else (kimberlitelaw03_CurveConvex.j1 kj6 a2 a3 a4 a5 t774 t775 false a0_0 a0_1 l0_2))))) = some r := H
     have A44 := Aside0.mk A440
     clear A440
     replace H := Option.bind_eq_some_iff.mp H
     obtain ⟨⟨t776, t777⟩, A450, H⟩ := H
     replace H : ((curve_Add.f kj6 a0_0 a0_1 l0_2 a1_0 a1_1 l1_2).bind fun bt778 => ((kimberlitelaw03_at.f bt778.1 bt778.2.1 bt778.2.2.1 a5).bind fun bt785 => (if bt778.2.2.2 = 0 then ((curve_Valid.f bt778.1 bt778.2.1 bt778.2.2.1).bind fun t787 => (if t787 = true then (if t775 = true then (if (bt785.2 != t777) = true then (kimberlitelaw03_CurveConvex.j1 kj6 a2 a3 a4 a5 t774 t775 true a0_0 a0_1 l0_2) else (if bt785.2 = true then (kimberlitelaw03_CurveConvex.j1 kj6 a2 a3 a4 a5 t774 t775 (bt785.1 != (wrap64 (t774 + t776))) a0_0 a0_1 l0_2) else (kimberlitelaw03_CurveConvex.j1 kj6 a2 a3 a4 a5 t774 t775 false a0_0 a0_1 l0_2))) else (if (bt785.2 != false) = true then (kimberlitelaw03_CurveConvex.j1 kj6 a2 a3 a4 a5 t774 t775 true a0_0 a0_1 l0_2) else (if bt785.2 = true then (kimberlitelaw03_CurveConvex.j1 kj6 a2 a3 a4 a5 t774 t775 (bt785.1 != (wrap64 (t774 + t776))) a0_0 a0_1 l0_2) else (kimberlitelaw03_CurveConvex.j1 kj6 a2 a3 a4 a5 t774 t775 false a0_0 a0_1 l0_2)))) else (kimberlitelaw03_CurveConvex.j1 kj6 a2 a3 a4 a5 t774 t775 true a0_0 a0_1 l0_2))) else (kimberlitelaw03_CurveConvex.j1 kj6 a2 a3 a4 a5 t774 t775 false a0_0 a0_1 l0_2)))) = some r := H
     have A45 := Aside0.mk A450
     clear A450
     replace H := Option.bind_eq_some_iff.mp H
     obtain ⟨⟨t778, t779, t780, t783⟩, A460, H⟩ := H
     replace H : ((kimberlitelaw03_at.f t778 t779 t780 a5).bind fun bt785 => (if t783 = 0 then ((curve_Valid.f t778 t779 t780).bind fun t787 => (if t787 = true then (if t775 = true then (if (bt785.2 != t777) = true then (kimberlitelaw03_CurveConvex.j1 kj6 a2 a3 a4 a5 t774 t775 true a0_0 a0_1 l0_2) else (if bt785.2 = true then (kimberlitelaw03_CurveConvex.j1 kj6 a2 a3 a4 a5 t774 t775 (bt785.1 != (wrap64 (t774 + t776))) a0_0 a0_1 l0_2) else (kimberlitelaw03_CurveConvex.j1 kj6 a2 a3 a4 a5 t774 t775 false a0_0 a0_1 l0_2))) else (if (bt785.2 != false) = true then (kimberlitelaw03_CurveConvex.j1 kj6 a2 a3 a4 a5 t774 t775 true a0_0 a0_1 l0_2) else (if bt785.2 = true then (kimberlitelaw03_CurveConvex.j1 kj6 a2 a3 a4 a5 t774 t775 (bt785.1 != (wrap64 (t774 + t776))) a0_0 a0_1 l0_2) else (kimberlitelaw03_CurveConvex.j1 kj6 a2 a3 a4 a5 t774 t775 false a0_0 a0_1 l0_2)))) else (kimberlitelaw03_CurveConvex.j1 kj6 a2 a3 a4 a5 t774 t775 true a0_0 a0_1 l0_2))) else (kimberlitelaw03_CurveConvex.j1 kj6 a2 a3 a4 a5 t774 t775 false a0_0 a0_1 l0_2))) = some r := H
     have A46 := Aside0.mk A460
     clear A460
     replace H := Option.bind_eq_some_iff.mp H
     obtain ⟨⟨t785, t786⟩, A470, H⟩ := H
     replace H : (if t783 = 0 then ((curve_Valid.f t778 t779 t780).bind fun t787 => (if t787 = true then (if t775 = true then (if (t786 != t777) = true then (kimberlitelaw03_CurveConvex.j1 kj6 a2 a3 a4 a5 t774 t775 true a0_0 a0_1 l0_2) else (if t786 = true then (kimberlitelaw03_CurveConvex.j1 kj6 a2 a3 a4 a5 t774 t775 (t785 != (wrap64 (t774 + t776))) a0_0 a0_1 l0_2) else (kimberlitelaw03_CurveConvex.j1 kj6 a2 a3 a4 a5 t774 t775 false a0_0 a0_1 l0_2))) else (if (t786 != false) = true then (kimberlitelaw03_CurveConvex.j1 kj6 a2 a3 a4 a5 t774 t775 true a0_0 a0_1 l0_2) else (if t786 = true then (kimberlitelaw03_CurveConvex.j1 kj6 a2 a3 a4 a5 t774 t775 (t785 != (wrap64 (t774 + t776))) a0_0 a0_1 l0_2) else (kimberlitelaw03_CurveConvex.j1 kj6 a2 a3 a4 a5 t774 t775 false a0_0 a0_1 l0_2)))) else (kimberlitelaw03_CurveConvex.j1 kj6 a2 a3 a4 a5 t774 t775 true a0_0 a0_1 l0_2))) else (kimberlitelaw03_CurveConvex.j1 kj6 a2 a3 a4 a5 t774 t775 false a0_0 a0_1 l0_2)) = some r := H
     have A47 := Aside0.mk A470
     clear A470
     have HC48 := Aside0.mk H
     clear H
     have hnb49 := NB762_763.out
     have hnc49 := NB763_762.out
     have hcz50_0 : wc.cell? ⟨gb762, 0, none⟩ = some (.int .i64 a0_0) := (blk_cell BK762.out 0).trans rfl
     have hcz50_1 : wc.cell? ⟨gb762, 1, none⟩ = some (.int .i64 a0_1) := (blk_cell BK762.out 1).trans rfl
     have hcz50_2 : wc.cell? ⟨gb762, 2, none⟩ = some (.slice A0_2 l0_2.length c0_2) := (blk_cell BK762.out 2).trans rfl
     have hfz50_0 := blk_frozen BK762.out 0
     have hfz50_1 := blk_frozen BK762.out 1
     have hfz50_2 := blk_frozen BK762.out 2
     go_upto_region 8 with (first | ((with_reducible refine gate_callee (f := 18) rfl ?_); refine goesL_ (some 45) rfl rfl Try.func18 (by kernel_rfl) rfl #[.agg #[.int .i64 a0_0, .int .i64 a0_1, .slice A0_2 l0_2.length c0_2], .int .i64 a5] rfl (by (try simp only [List.map_toArray, List.map_cons, List.map_nil]); first | done | rfl | (simp only [List.length_drop, List.length_take]; rfl)) ?_; (with_reducible refine (kimberlitelaw03_at.calls a0_0 a0_1 _ _ l0_2 a5 t774 t775 _ ?side1 ?side2 A44.out).mono ?_); (case side1 => repeat (first | exact (Kd.C_below HR0_2.out HB.out) | (with_reducible refine Kd.C_alloc ?_ _) | (with_reducible refine Kd.C_drewN ?_ _) | (with_reducible refine Kd.C_drew ?_))); (case side2 => exact HC0_2.out); rintro e w51 ⟨rfl, hb⟩; refine ⟨_, rfl, ?_⟩; have n0_ := Aside0.mk (nB BK762 hb); have n1_ := Aside0.mk (nB BK763 hb); have n2_ := Aside0.mk (below_step (nC HB) hb); clear BK762; clear BK763; clear HB; have BK762 := n0_; have BK763 := n1_; have HB := n2_; clear n0_ n1_ n2_; (try clear hb); (try clear hb2); (try clear hk); (try clear hi); have hcz52_0 : w51.cell? ⟨gb763, 0, none⟩ = some (.int .i64 a1_0) := (blk_cell BK763.out 0).trans rfl; have hcz52_1 : w51.cell? ⟨gb763, 1, none⟩ = some (.int .i64 a1_1) := (blk_cell BK763.out 1).trans rfl; have hcz52_2 : w51.cell? ⟨gb763, 2, none⟩ = some (.slice A1_2 l1_2.length c1_2) := (blk_cell BK763.out 2).trans rfl; have hfz52_0 := blk_frozen BK763.out 0; have hfz52_1 := blk_frozen BK763.out 1; have hfz52_2 := blk_frozen BK763.out 2) | ((with_reducible refine gate_callee (f := 18) rfl ?_); refine goesL_ (some 51) rfl rfl Try.func18 (by kernel_rfl) rfl #[.agg #[.int .i64 a1_0, .int .i64 a1_1, .slice A1_2 l1_2.length c1_2], .int .i64 a5] rfl (by (try simp only [List.map_toArray, List.map_cons, List.map_nil]); first | done | rfl | (simp only [List.length_drop, List.length_take]; rfl)) ?_; (with_reducible refine (kimberlitelaw03_at.calls a1_0 a1_1 _ _ l1_2 a5 t776 t777 _ ?side1 ?side2 A45.out).mono ?_); (case side1 => repeat (first | exact (Kd.C_below HR1_2.out HB.out) | (with_reducible refine Kd.C_alloc ?_ _) | (with_reducible refine Kd.C_drewN ?_ _) | (with_reducible refine Kd.C_drew ?_))); (case side2 => exact HC1_2.out); rintro e w53 ⟨rfl, hb⟩; refine ⟨_, rfl, ?_⟩; have n0_ := Aside0.mk (nB BK762 hb); have n1_ := Aside0.mk (nB BK763 hb); have n2_ := Aside0.mk (below_step (nC HB) hb); clear BK762; clear BK763; clear HB; have BK762 := n0_; have BK763 := n1_; have HB := n2_; clear n0_ n1_ n2_; (try clear hb); (try clear hb2); (try clear hk); (try clear hi); have hcz54_0 : w53.cell? ⟨gb762, 0, none⟩ = some (.int .i64 a0_0) := (blk_cell BK762.out 0).trans rfl; have hcz54_1 : w53.cell? ⟨gb762, 1, none⟩ = some (.int .i64 a0_1) := (blk_cell BK762.out 1).trans rfl; have hcz54_2 : w53.cell? ⟨gb762, 2, none⟩ = some (.slice A0_2 l0_2.length c0_2) := (blk_cell BK762.out 2).trans rfl; have hfz54_0 := blk_frozen BK762.out 0; have hfz54_1 := blk_frozen BK762.out 1; have hfz54_2 := blk_frozen BK762.out 2; have hcz55_0 : w53.cell? ⟨gb763, 0, none⟩ = some (.int .i64 a1_0) := (blk_cell BK763.out 0).trans rfl; have hcz55_1 : w53.cell? ⟨gb763, 1, none⟩ = some (.int .i64 a1_1) := (blk_cell BK763.out 1).trans rfl; have hcz55_2 : w53.cell? ⟨gb763, 2, none⟩ = some (.slice A1_2 l1_2.length c1_2) := (blk_cell BK763.out 2).trans rfl; have hfz55_0 := blk_frozen BK763.out 0; have hfz55_1 := blk_frozen BK763.out 1; have hfz55_2 := blk_frozen BK763.out 2) | ((with_reducible refine gate_callee (f := 38) rfl ?_); refine goesL_ (some 57) rfl rfl Try.func38 (by kernel_rfl) rfl #[.agg #[.int .i64 a0_0, .int .i64 a0_1, .slice A0_2 l0_2.length c0_2], .agg #[.int .i64 a1_0, .int .i64 a1_1, .slice A1_2 l1_2.length c1_2]] rfl (by (try simp only [List.map_toArray, List.map_cons, List.map_nil]); first | done | rfl | (simp only [List.length_drop, List.length_take]; rfl)) ?_; (with_reducible refine (curve_Add.calls kj6 a0_0 a0_1 _ _ l0_2 a1_0 a1_1 _ _ l1_2 t778 t779 t780 t783 _ ?side1 ?side2 ?side3 ?side4 A46.out).mono ?_); (case side1 => repeat (first | exact (Kd.C_below HR0_2.out HB.out) | (with_reducible refine Kd.C_alloc ?_ _) | (with_reducible refine Kd.C_drewN ?_ _) | (with_reducible refine Kd.C_drew ?_))); (case side2 => exact HC0_2.out); (case side3 => repeat (first | exact (Kd.C_below HR1_2.out HB.out) | (with_reducible refine Kd.C_alloc ?_ _) | (with_reducible refine Kd.C_drewN ?_ _) | (with_reducible refine Kd.C_drew ?_))); (case side4 => exact HC1_2.out); rintro e w56 ⟨v781, rfl, ho0, hb⟩; refine ⟨_, rfl, ?_⟩; have n0_ := Aside0.mk (Kd.R_lower ho0 (below_size (nC HB))); have n1_ := Aside0.mk (nB BK762 hb); have n2_ := Aside0.mk (nB BK763 hb); have n3_ := Aside0.mk (below_step (nC HB) hb); clear BK762; clear BK763; clear HB; have HO782 := n0_; have BK762 := n1_; have BK763 := n2_; have HB := n3_; clear n0_ n1_ n2_ n3_; (try clear hb); (try clear hb2); (try clear hk); (try clear hi); (try clear ho0)) | ((with_reducible refine gate_dst (N := 19) rfl ?_); refine box_event ?hg (N := 19) ?hd (cs := #[.int .i64 0, .int .i64 0, .slice none 0 0]) (t := 24) ?hr ?_; (case hd => rfl); (case hg => rfl); (case hr => first | (go_simp; done) | (go_simp; rfl)); intro gb784 hg w57 hbox hb; have n0_ := Aside0.mk (Kd.R_below (nR HO782) hb); have n1_ := Aside0.mk (nB BK762 hb); have n2_ := Aside0.mk (nB BK763 hb); have n3_ := Aside0.mk (below_step (nC HB) hb); have n4_ := Aside0.mk (hbox); have n5_ := Aside0.mk ((by rw [hg]; exact (below_size (nC HB)) : w.heap.size ≤ gb784)); have n6_ := Aside0.mk ((by rw [hg]; exact (below_size (nC HB)) : w.heap.size ≤ gb784)); have n7_ := Aside0.mk ((by rw [hg]; exact Nat.ne_of_lt (blk_lt (g := gb762) (o := .cells #[.int .i64 a0_0, .int .i64 a0_1, .slice A0_2 l0_2.length c0_2] 24 (0, 0)) (nK BK762)) : gb762 ≠ gb784)); have n8_ := Aside0.mk ((by rw [hg]; exact Nat.ne_of_gt (blk_lt (g := gb762) (o := .cells #[.int .i64 a0_0, .int .i64 a0_1, .slice A0_2 l0_2.length c0_2] 24 (0, 0)) (nK BK762)) : gb784 ≠ gb762)); have n9_ := Aside0.mk ((by rw [hg]; exact Nat.ne_of_lt (blk_lt (g := gb763) (o := .cells #[.int .i64 a1_0, .int .i64 a1_1, .slice A1_2 l1_2.length c1_2] 24 (0, 0)) (nK BK763)) : gb763 ≠ gb784)); have n10_ := Aside0.mk ((by rw [hg]; exact Nat.ne_of_gt (blk_lt (g := gb763) (o := .cells #[.int .i64 a1_0, .int .i64 a1_1, .slice A1_2 l1_2.length c1_2] 24 (0, 0)) (nK BK763)) : gb784 ≠ gb763)); clear HO782; clear BK762; clear BK763; clear HB; have HO782 := n0_; have BK762 := n1_; have BK763 := n2_; have HB := n3_; have BK784 := n4_; have GW784 := n5_; have GE784 := n6_; have NB762_784 := n7_; have NB784_762 := n8_; have NB763_784 := n9_; have NB784_763 := n10_; clear n0_ n1_ n2_ n3_ n4_ n5_ n6_ n7_ n8_ n9_ n10_; clear hb hbox hg; have hnb58 := NB784_762.out; have hnc58 := NB762_784.out; have hnb59 := NB784_763.out; have hnc59 := NB763_784.out; have hcz60_0 : w57.cell? ⟨gb784, 0, none⟩ = some (.int .i64 0) := (blk_cell BK784.out 0).trans rfl; have hcz60_1 : w57.cell? ⟨gb784, 1, none⟩ = some (.int .i64 0) := (blk_cell BK784.out 1).trans rfl; have hcz60_2 : w57.cell? ⟨gb784, 2, none⟩ = some (.slice none 0 0) := (blk_cell BK784.out 2).trans rfl; have hfz60_0 := blk_frozen BK784.out 0; have hfz60_1 := blk_frozen BK784.out 1; have hfz60_2 := blk_frozen BK784.out 2; obtain ⟨Ao61, co61, eo61⟩ := Kd.R_slice HO782.out; subst eo61) | ((with_reducible refine gate_callee (f := 18) rfl ?_); refine goesL_ (some 63) rfl rfl Try.func18 (by kernel_rfl) rfl #[.agg #[.int .i64 t778, .int .i64 t779, .slice Ao61 t780.length co61], .int .i64 a5] rfl (by (try simp only [List.map_toArray, List.map_cons, List.map_nil]); first | done | rfl | (simp only [List.length_drop, List.length_take]; rfl)) ?_; (with_reducible refine (kimberlitelaw03_at.calls t778 t779 _ _ t780 a5 t785 t786 _ ?side1 ?side2 A47.out).mono ?_); (case side1 => refine (Kd.R_reads' (e := 3) (base := w.heap.size) (ok := fun k_ => True) (n := t780.length) (c := co61) ?_).2.2; exact (by (with_reducible repeat (first | apply Kd.R_alloc | apply Kd.R_drewN | apply Kd.R_drew)); exact (Kd.R_mono (Kd.R_far (p := ⟨gb784, 2, none⟩) (Kd.R_far (p := ⟨gb784, 1, none⟩) (Kd.R_far (p := ⟨gb784, 0, none⟩) (Kd.R_types HO782.out BK784.out (by decide)) (fun _ hk => hk.2) (.int .i64 t778)) (fun _ hk => hk.2) (.int .i64 t779)) (fun _ hk => hk.2) (.slice Ao61 t780.length co61)) (fun _ h_ => h_.1)))); (case side2 => exact (Kd.R_reads' HO782.out).2.1); rintro e w62 ⟨rfl, hb⟩; refine ⟨_, rfl, ?_⟩; have n0_ := Aside0.mk (Kd.R_below (by (with_reducible repeat (first | apply Kd.R_alloc | apply Kd.R_drewN | apply Kd.R_drew)); exact (Kd.R_mono (Kd.R_far (p := ⟨gb784, 2, none⟩) (Kd.R_far (p := ⟨gb784, 1, none⟩) (Kd.R_far (p := ⟨gb784, 0, none⟩) (Kd.R_types HO782.out BK784.out (by decide)) (fun _ hk => hk.2) (.int .i64 t778)) (fun _ hk => hk.2) (.int .i64 t779)) (fun _ hk => hk.2) (.slice Ao61 t780.length co61)) (fun _ h_ => h_.1))) hb); have n1_ := Aside0.mk (blk_below (g := gb762) (o := .cells #[.int .i64 a0_0, .int .i64 a0_1, .slice A0_2 l0_2.length c0_2] 24 (0, 0)) (by (with_reducible repeat (first | refine blk_drewN ?_ _ | refine blk_drew ?_ | refine blk_alloc ?_ _)); refine blk_far ?_ NB762_784.out _; (with_reducible repeat (first | refine blk_drewN ?_ _ | refine blk_drew ?_ | refine blk_alloc ?_ _)); refine blk_far ?_ NB762_784.out _; (with_reducible repeat (first | refine blk_drewN ?_ _ | refine blk_drew ?_ | refine blk_alloc ?_ _)); refine blk_far ?_ NB762_784.out _; (with_reducible repeat (first | refine blk_drewN ?_ _ | refine blk_drew ?_ | refine blk_alloc ?_ _)); exact BK762.out) hb); have n2_ := Aside0.mk (blk_below (g := gb763) (o := .cells #[.int .i64 a1_0, .int .i64 a1_1, .slice A1_2 l1_2.length c1_2] 24 (0, 0)) (by (with_reducible repeat (first | refine blk_drewN ?_ _ | refine blk_drew ?_ | refine blk_alloc ?_ _)); refine blk_far ?_ NB763_784.out _; (with_reducible repeat (first | refine blk_drewN ?_ _ | refine blk_drew ?_ | refine blk_alloc ?_ _)); refine blk_far ?_ NB763_784.out _; (with_reducible repeat (first | refine blk_drewN ?_ _ | refine blk_drew ?_ | refine blk_alloc ?_ _)); refine blk_far ?_ NB763_784.out _; (with_reducible repeat (first | refine blk_drewN ?_ _ | refine blk_drew ?_ | refine blk_alloc ?_ _)); exact BK763.out) hb); have n3_ := Aside0.mk (blk_below (g := gb784) (o := .cells #[.int .i64 t778, .int .i64 t779, .slice Ao61 t780.length co61] 24 (0, 0)) (by (with_reducible repeat (first | refine blk_drewN ?_ _ | refine blk_drew ?_ | refine blk_alloc ?_ _)); refine blk_put (cs := #[.int .i64 t778, .int .i64 t779, .slice none 0 0]) ?_ 2 _ rfl; (with_reducible repeat (first | refine blk_drewN ?_ _ | refine blk_drew ?_ | refine blk_alloc ?_ _)); refine blk_put (cs := #[.int .i64 t778, .int .i64 0, .slice none 0 0]) ?_ 1 _ rfl; (with_reducible repeat (first | refine blk_drewN ?_ _ | refine blk_drew ?_ | refine blk_alloc ?_ _)); refine blk_put (cs := #[.int .i64 0, .int .i64 0, .slice none 0 0]) ?_ 0 _ rfl; (with_reducible repeat (first | refine blk_drewN ?_ _ | refine blk_drew ?_ | refine blk_alloc ?_ _)); exact BK784.out) hb); have n4_ := Aside0.mk (below_step (nC HB) hb); clear HO782; clear BK762; clear BK763; clear BK784; clear HB; have HO782 := n0_; have BK762 := n1_; have BK763 := n2_; have BK784 := n3_; have HB := n4_; clear n0_ n1_ n2_ n3_ n4_; (try clear hb); (try clear hb2); (try clear hk); (try clear hi)))
     (try simp only [Act.put, List.setIfInBounds_toArray, List.set_cons_zero, List.set_cons_succ])
     go_cut [90] (fun v90 wc => ∃ (kq : Nat) (x90_47 : Bool), v90 = .bool x90_47 ∧ Aside0 (kimberlitelaw03_CurveConvex.j1 kq a2 a3 a4 a5 t774 t775 x90_47 a0_0 a0_1 l0_2 = some r) ∧ Aside0 (kq ≤ kj6) ∧ Aside0 (Kd.R (Kd.int .i64) 3 wc w.heap.size (fun _ => True) (.slice Ao61 t780.length co61) t780) ∧ Aside0 (wc.heap[gb762]? = some (.cells #[.int .i64 a0_0, .int .i64 a0_1, (.slice A0_2 l0_2.length c0_2)] 24 (0, 0))) ∧ Aside0 (wc.heap[gb763]? = some (.cells #[.int .i64 a1_0, .int .i64 a1_1, (.slice A1_2 l1_2.length c1_2)] 24 (0, 0))) ∧ Aside0 (wc.heap[gb784]? = some (.cells #[.int .i64 t778, .int .i64 t779, (.slice Ao61 t780.length co61)] 24 (0, 0))) ∧ Aside0 (Below w.heap.size w wc))
     case first =>
      as_aux_lemma =>
      have H := HC48.out
      clear HC48
      by_cases c63 : t783 = 0
      · rw [if_pos c63] at H
        have c63b0 : (t783 == 0) = true := beq_iff_eq.mpr c63
        have c63b1 : (t783 != 0) = false := bne_eq_false_iff_eq.mpr c63
        clear c63
        (first | rw [c63b0] | (simp only [i64_w, i32_w]; rw [c63b0]) | skip)
        replace H := Option.bind_eq_some_iff.mp H
        obtain ⟨t787, A640, H⟩ := H
        replace H : (if t787 = true then (if t775 = true then (if (t786 != t777) = true then (kimberlitelaw03_CurveConvex.j1 kj6 a2 a3 a4 a5 t774 t775 true a0_0 a0_1 l0_2) else (if t786 = true then (kimberlitelaw03_CurveConvex.j1 kj6 a2 a3 a4 a5 t774 t775 (t785 != (wrap64 (t774 + t776))) a0_0 a0_1 l0_2) else (kimberlitelaw03_CurveConvex.j1 kj6 a2 a3 a4 a5 t774 t775 false a0_0 a0_1 l0_2))) else (if (t786 != false) = true then (kimberlitelaw03_CurveConvex.j1 kj6 a2 a3 a4 a5 t774 t775 true a0_0 a0_1 l0_2) else (if t786 = true then (kimberlitelaw03_CurveConvex.j1 kj6 a2 a3 a4 a5 t774 t775 (t785 != (wrap64 (t774 + t776))) a0_0 a0_1 l0_2) else (kimberlitelaw03_CurveConvex.j1 kj6 a2 a3 a4 a5 t774 t775 false a0_0 a0_1 l0_2)))) else (kimberlitelaw03_CurveConvex.j1 kj6 a2 a3 a4 a5 t774 t775 true a0_0 a0_1 l0_2)) = some r := H
        have A64 := Aside0.mk A640
        clear A640
        by_cases c65 : t787 = true
        · subst c65
          have H1 : (if t775 = true then (if (t786 != t777) = true then (kimberlitelaw03_CurveConvex.j1 kj6 a2 a3 a4 a5 t774 t775 true a0_0 a0_1 l0_2) else (if t786 = true then (kimberlitelaw03_CurveConvex.j1 kj6 a2 a3 a4 a5 t774 t775 (t785 != (wrap64 (t774 + t776))) a0_0 a0_1 l0_2) else (kimberlitelaw03_CurveConvex.j1 kj6 a2 a3 a4 a5 t774 t775 false a0_0 a0_1 l0_2))) else (if (t786 != false) = true then (kimberlitelaw03_CurveConvex.j1 kj6 a2 a3 a4 a5 t774 t775 true a0_0 a0_1 l0_2) else (if t786 = true then (kimberlitelaw03_CurveConvex.j1 kj6 a2 a3 a4 a5 t774 t775 (t785 != (wrap64 (t774 + t776))) a0_0 a0_1 l0_2) else (kimberlitelaw03_CurveConvex.j1 kj6 a2 a3 a4 a5 t774 t775 false a0_0 a0_1 l0_2)))) = some r := by rw [if_pos rfl] at H; exact H
          clear H
          have H := H1
          clear H1
          by_cases c66 : t775 = true
          · subst c66
            have H1 : (if (t786 != t777) = true then (kimberlitelaw03_CurveConvex.j1 kj6 a2 a3 a4 a5 t774 true true a0_0 a0_1 l0_2) else (if t786 = true then (kimberlitelaw03_CurveConvex.j1 kj6 a2 a3 a4 a5 t774 true (t785 != (wrap64 (t774 + t776))) a0_0 a0_1 l0_2) else (kimberlitelaw03_CurveConvex.j1 kj6 a2 a3 a4 a5 t774 true false a0_0 a0_1 l0_2))) = some r := by rw [if_pos rfl] at H; exact H
            clear H
            have H := H1
            clear H1
            by_cases c67 : (t786 != t777) = true
            · rw [if_pos c67] at H
              have c67b0 : (t786 != t777) = true := c67
              (try (have c67b1 : decide (t786 = t777) = false := by simpa using c67))
              (try (have c67b2 : (t786 == t777) = false := by simpa using c67))
              (try (have c67b3 : ¬ (t786 = t777) := by simpa using c67))
              clear c67
              have H' := Aside0.mk H
              clear H
              have hnb68 := NB784_762.out
              have hnc68 := NB762_784.out
              have hnb69 := NB784_763.out
              have hnc69 := NB763_784.out
              have hcz70_0 : w62.cell? ⟨gb784, 0, none⟩ = some (.int .i64 t778) := (blk_cell BK784.out 0).trans rfl
              have hcz70_1 : w62.cell? ⟨gb784, 1, none⟩ = some (.int .i64 t779) := (blk_cell BK784.out 1).trans rfl
              have hcz70_2 : w62.cell? ⟨gb784, 2, none⟩ = some (.slice Ao61 t780.length co61) := (blk_cell BK784.out 2).trans rfl
              have hfz70_0 := blk_frozen BK784.out 0
              have hfz70_1 := blk_frozen BK784.out 1
              have hfz70_2 := blk_frozen BK784.out 2
              go_wp2_with (first | (go_at_call 16; (with_reducible refine (curve_Valid.calls t778 t779 _ _ t780 true _ ?side1 ?side2 A64.out).mono ?_); (case side1 => repeat (first | exact (Kd.R_reads' HO782.out).2.2 | (with_reducible refine Kd.C_alloc ?_ _) | (with_reducible refine Kd.C_drewN ?_ _) | (with_reducible refine Kd.C_drew ?_))); (case side2 => exact (Kd.R_reads' HO782.out).2.1); rintro e w71 ⟨rfl, hb⟩; have n0_ := Aside0.mk (Kd.R_below (nR HO782) hb); have n1_ := Aside0.mk (nB BK762 hb); have n2_ := Aside0.mk (nB BK763 hb); have n3_ := Aside0.mk (nB BK784 hb); have n4_ := Aside0.mk (below_step (nC HB) hb); clear HO782; clear BK762; clear BK763; clear BK784; clear HB; have HO782 := n0_; have BK762 := n1_; have BK763 := n2_; have BK784 := n3_; have HB := n4_; clear n0_ n1_ n2_ n3_ n4_; (try clear hb); (try clear hb2); (try clear hk); (try clear hi)))
              go_meet
              case rel => exact ⟨_, (true), (by first | rfl | (simp; done) | (simp [*]; done)), H', ⟨by have := HJ6.out; first | omega | exact Nat.le_refl _⟩, ⟨nR HO782⟩, ⟨nK BK762⟩, ⟨nK BK763⟩, ⟨nK BK784⟩, ⟨nC HB⟩⟩
            · rw [if_neg c67] at H
              have c67b0 : (t786 != t777) = false := by simpa using c67
              (try (have c67b1 : decide (t786 = t777) = true := by simpa using c67))
              (try (have c67b2 : (t786 == t777) = true := by simpa using c67))
              clear c67
              by_cases c72 : t786 = true
              · subst c72
                have H1 : (kimberlitelaw03_CurveConvex.j1 kj6 a2 a3 a4 a5 t774 true (t785 != (wrap64 (t774 + t776))) a0_0 a0_1 l0_2) = some r := by rw [if_pos rfl] at H; exact H
                clear H
                have H := H1
                clear H1
                have H' := Aside0.mk H
                clear H
                have hnb73 := NB784_762.out
                have hnc73 := NB762_784.out
                have hnb74 := NB784_763.out
                have hnc74 := NB763_784.out
                have hcz75_0 : w62.cell? ⟨gb784, 0, none⟩ = some (.int .i64 t778) := (blk_cell BK784.out 0).trans rfl
                have hcz75_1 : w62.cell? ⟨gb784, 1, none⟩ = some (.int .i64 t779) := (blk_cell BK784.out 1).trans rfl
                have hcz75_2 : w62.cell? ⟨gb784, 2, none⟩ = some (.slice Ao61 t780.length co61) := (blk_cell BK784.out 2).trans rfl
                have hfz75_0 := blk_frozen BK784.out 0
                have hfz75_1 := blk_frozen BK784.out 1
                have hfz75_2 := blk_frozen BK784.out 2
                go_wp2_with (first | (go_at_call 16; (with_reducible refine (curve_Valid.calls t778 t779 _ _ t780 true _ ?side1 ?side2 A64.out).mono ?_); (case side1 => repeat (first | exact (Kd.R_reads' HO782.out).2.2 | (with_reducible refine Kd.C_alloc ?_ _) | (with_reducible refine Kd.C_drewN ?_ _) | (with_reducible refine Kd.C_drew ?_))); (case side2 => exact (Kd.R_reads' HO782.out).2.1); rintro e w76 ⟨rfl, hb⟩; have n0_ := Aside0.mk (Kd.R_below (nR HO782) hb); have n1_ := Aside0.mk (nB BK762 hb); have n2_ := Aside0.mk (nB BK763 hb); have n3_ := Aside0.mk (nB BK784 hb); have n4_ := Aside0.mk (below_step (nC HB) hb); clear HO782; clear BK762; clear BK763; clear BK784; clear HB; have HO782 := n0_; have BK762 := n1_; have BK763 := n2_; have BK784 := n3_; have HB := n4_; clear n0_ n1_ n2_ n3_ n4_; (try clear hb); (try clear hb2); (try clear hk); (try clear hi)))
                go_meet
                case rel => exact ⟨_, ((t785 != (wrap64 (t774 + t776)))), (by first | rfl | (simp; done) | (simp [*]; done)), H', ⟨by have := HJ6.out; first | omega | exact Nat.le_refl _⟩, ⟨nR HO782⟩, ⟨nK BK762⟩, ⟨nK BK763⟩, ⟨nK BK784⟩, ⟨nC HB⟩⟩
              · replace c72 := Bool.eq_false_iff.mpr c72
                subst c72
                have H1 : (kimberlitelaw03_CurveConvex.j1 kj6 a2 a3 a4 a5 t774 true false a0_0 a0_1 l0_2) = some r := by rw [if_neg (show ¬ (false = true) by decide)] at H; exact H
                clear H
                have H := H1
                clear H1
                have H' := Aside0.mk H
                clear H
                have hnb77 := NB784_762.out
                have hnc77 := NB762_784.out
                have hnb78 := NB784_763.out
                have hnc78 := NB763_784.out
                have hcz79_0 : w62.cell? ⟨gb784, 0, none⟩ = some (.int .i64 t778) := (blk_cell BK784.out 0).trans rfl
                have hcz79_1 : w62.cell? ⟨gb784, 1, none⟩ = some (.int .i64 t779) := (blk_cell BK784.out 1).trans rfl
                have hcz79_2 : w62.cell? ⟨gb784, 2, none⟩ = some (.slice Ao61 t780.length co61) := (blk_cell BK784.out 2).trans rfl
                have hfz79_0 := blk_frozen BK784.out 0
                have hfz79_1 := blk_frozen BK784.out 1
                have hfz79_2 := blk_frozen BK784.out 2
                go_wp2_with (first | (go_at_call 16; (with_reducible refine (curve_Valid.calls t778 t779 _ _ t780 true _ ?side1 ?side2 A64.out).mono ?_); (case side1 => repeat (first | exact (Kd.R_reads' HO782.out).2.2 | (with_reducible refine Kd.C_alloc ?_ _) | (with_reducible refine Kd.C_drewN ?_ _) | (with_reducible refine Kd.C_drew ?_))); (case side2 => exact (Kd.R_reads' HO782.out).2.1); rintro e w80 ⟨rfl, hb⟩; have n0_ := Aside0.mk (Kd.R_below (nR HO782) hb); have n1_ := Aside0.mk (nB BK762 hb); have n2_ := Aside0.mk (nB BK763 hb); have n3_ := Aside0.mk (nB BK784 hb); have n4_ := Aside0.mk (below_step (nC HB) hb); clear HO782; clear BK762; clear BK763; clear BK784; clear HB; have HO782 := n0_; have BK762 := n1_; have BK763 := n2_; have BK784 := n3_; have HB := n4_; clear n0_ n1_ n2_ n3_ n4_; (try clear hb); (try clear hb2); (try clear hk); (try clear hi)))
                go_meet
                case rel => exact ⟨_, (false), (by first | rfl | (simp; done) | (simp [*]; done)), H', ⟨by have := HJ6.out; first | omega | exact Nat.le_refl _⟩, ⟨nR HO782⟩, ⟨nK BK762⟩, ⟨nK BK763⟩, ⟨nK BK784⟩, ⟨nC HB⟩⟩
          · replace c66 := Bool.eq_false_iff.mpr c66
            subst c66
            have H1 : (if (t786 != false) = true then (kimberlitelaw03_CurveConvex.j1 kj6 a2 a3 a4 a5 t774 false true a0_0 a0_1 l0_2) else (if t786 = true then (kimberlitelaw03_CurveConvex.j1 kj6 a2 a3 a4 a5 t774 false (t785 != (wrap64 (t774 + t776))) a0_0 a0_1 l0_2) else (kimberlitelaw03_CurveConvex.j1 kj6 a2 a3 a4 a5 t774 false false a0_0 a0_1 l0_2))) = some r := by rw [if_neg (show ¬ (false = true) by decide)] at H; exact H
            clear H
            have H := H1
            clear H1
            by_cases c81 : (t786 != false) = true
            · rw [if_pos c81] at H
              have c81b0 : (t786 != false) = true := c81
              (try (have c81b1 : decide (t786 = false) = false := by simpa using c81))
              (try (have c81b2 : (t786 == false) = false := by simpa using c81))
              (try (have c81b3 : ¬ (t786 = false) := by simpa using c81))
              clear c81
              obtain rfl : t786 = true := by simpa using c81b0
              have H' := Aside0.mk H
              clear H
              have hnb82 := NB784_762.out
              have hnc82 := NB762_784.out
              have hnb83 := NB784_763.out
              have hnc83 := NB763_784.out
              have hcz84_0 : w62.cell? ⟨gb784, 0, none⟩ = some (.int .i64 t778) := (blk_cell BK784.out 0).trans rfl
              have hcz84_1 : w62.cell? ⟨gb784, 1, none⟩ = some (.int .i64 t779) := (blk_cell BK784.out 1).trans rfl
              have hcz84_2 : w62.cell? ⟨gb784, 2, none⟩ = some (.slice Ao61 t780.length co61) := (blk_cell BK784.out 2).trans rfl
              have hfz84_0 := blk_frozen BK784.out 0
              have hfz84_1 := blk_frozen BK784.out 1
              have hfz84_2 := blk_frozen BK784.out 2
              go_wp2_with (first | (go_at_call 16; (with_reducible refine (curve_Valid.calls t778 t779 _ _ t780 true _ ?side1 ?side2 A64.out).mono ?_); (case side1 => repeat (first | exact (Kd.R_reads' HO782.out).2.2 | (with_reducible refine Kd.C_alloc ?_ _) | (with_reducible refine Kd.C_drewN ?_ _) | (with_reducible refine Kd.C_drew ?_))); (case side2 => exact (Kd.R_reads' HO782.out).2.1); rintro e w85 ⟨rfl, hb⟩; have n0_ := Aside0.mk (Kd.R_below (nR HO782) hb); have n1_ := Aside0.mk (nB BK762 hb); have n2_ := Aside0.mk (nB BK763 hb); have n3_ := Aside0.mk (nB BK784 hb); have n4_ := Aside0.mk (below_step (nC HB) hb); clear HO782; clear BK762; clear BK763; clear BK784; clear HB; have HO782 := n0_; have BK762 := n1_; have BK763 := n2_; have BK784 := n3_; have HB := n4_; clear n0_ n1_ n2_ n3_ n4_; (try clear hb); (try clear hb2); (try clear hk); (try clear hi)))
              go_meet
              case rel => exact ⟨_, (true), (by first | rfl | (simp; done) | (simp [*]; done)), H', ⟨by have := HJ6.out; first | omega | exact Nat.le_refl _⟩, ⟨nR HO782⟩, ⟨nK BK762⟩, ⟨nK BK763⟩, ⟨nK BK784⟩, ⟨nC HB⟩⟩
            · rw [if_neg c81] at H
              have c81b0 : (t786 != false) = false := by simpa using c81
              (try (have c81b1 : decide (t786 = false) = true := by simpa using c81))
              (try (have c81b2 : (t786 == false) = true := by simpa using c81))
              clear c81
              by_cases c86 : t786 = true
              · subst c86
                have H1 : (kimberlitelaw03_CurveConvex.j1 kj6 a2 a3 a4 a5 t774 false (t785 != (wrap64 (t774 + t776))) a0_0 a0_1 l0_2) = some r := by rw [if_pos rfl] at H; exact H
                clear H
                have H := H1
                clear H1
                have H' := Aside0.mk H
                clear H
                have hnb87 := NB784_762.out
                have hnc87 := NB762_784.out
                have hnb88 := NB784_763.out
                have hnc88 := NB763_784.out
                have hcz89_0 : w62.cell? ⟨gb784, 0, none⟩ = some (.int .i64 t778) := (blk_cell BK784.out 0).trans rfl
                have hcz89_1 : w62.cell? ⟨gb784, 1, none⟩ = some (.int .i64 t779) := (blk_cell BK784.out 1).trans rfl
                have hcz89_2 : w62.cell? ⟨gb784, 2, none⟩ = some (.slice Ao61 t780.length co61) := (blk_cell BK784.out 2).trans rfl
                have hfz89_0 := blk_frozen BK784.out 0
                have hfz89_1 := blk_frozen BK784.out 1
                have hfz89_2 := blk_frozen BK784.out 2
                go_wp2_with (first | (go_at_call 16; (with_reducible refine (curve_Valid.calls t778 t779 _ _ t780 true _ ?side1 ?side2 A64.out).mono ?_); (case side1 => repeat (first | exact (Kd.R_reads' HO782.out).2.2 | (with_reducible refine Kd.C_alloc ?_ _) | (with_reducible refine Kd.C_drewN ?_ _) | (with_reducible refine Kd.C_drew ?_))); (case side2 => exact (Kd.R_reads' HO782.out).2.1); rintro e w90 ⟨rfl, hb⟩; have n0_ := Aside0.mk (Kd.R_below (nR HO782) hb); have n1_ := Aside0.mk (nB BK762 hb); have n2_ := Aside0.mk (nB BK763 hb); have n3_ := Aside0.mk (nB BK784 hb); have n4_ := Aside0.mk (below_step (nC HB) hb); clear HO782; clear BK762; clear BK763; clear BK784; clear HB; have HO782 := n0_; have BK762 := n1_; have BK763 := n2_; have BK784 := n3_; have HB := n4_; clear n0_ n1_ n2_ n3_ n4_; (try clear hb); (try clear hb2); (try clear hk); (try clear hi)))
                go_meet
                case rel => exact ⟨_, ((t785 != (wrap64 (t774 + t776)))), (by first | rfl | (simp; done) | (simp [*]; done)), H', ⟨by have := HJ6.out; first | omega | exact Nat.le_refl _⟩, ⟨nR HO782⟩, ⟨nK BK762⟩, ⟨nK BK763⟩, ⟨nK BK784⟩, ⟨nC HB⟩⟩
              · replace c86 := Bool.eq_false_iff.mpr c86
                subst c86
                have H1 : (kimberlitelaw03_CurveConvex.j1 kj6 a2 a3 a4 a5 t774 false false a0_0 a0_1 l0_2) = some r := by rw [if_neg (show ¬ (false = true) by decide)] at H; exact H
                clear H
                have H := H1
                clear H1
                have H' := Aside0.mk H
                clear H
                have hnb91 := NB784_762.out
                have hnc91 := NB762_784.out
                have hnb92 := NB784_763.out
                have hnc92 := NB763_784.out
                have hcz93_0 : w62.cell? ⟨gb784, 0, none⟩ = some (.int .i64 t778) := (blk_cell BK784.out 0).trans rfl
                have hcz93_1 : w62.cell? ⟨gb784, 1, none⟩ = some (.int .i64 t779) := (blk_cell BK784.out 1).trans rfl
                have hcz93_2 : w62.cell? ⟨gb784, 2, none⟩ = some (.slice Ao61 t780.length co61) := (blk_cell BK784.out 2).trans rfl
                have hfz93_0 := blk_frozen BK784.out 0
                have hfz93_1 := blk_frozen BK784.out 1
                have hfz93_2 := blk_frozen BK784.out 2
                go_wp2_with (first | (go_at_call 16; (with_reducible refine (curve_Valid.calls t778 t779 _ _ t780 true _ ?side1 ?side2 A64.out).mono ?_); (case side1 => repeat (first | exact (Kd.R_reads' HO782.out).2.2 | (with_reducible refine Kd.C_alloc ?_ _) | (with_reducible refine Kd.C_drewN ?_ _) | (with_reducible refine Kd.C_drew ?_))); (case side2 => exact (Kd.R_reads' HO782.out).2.1); rintro e w94 ⟨rfl, hb⟩; have n0_ := Aside0.mk (Kd.R_below (nR HO782) hb); have n1_ := Aside0.mk (nB BK762 hb); have n2_ := Aside0.mk (nB BK763 hb); have n3_ := Aside0.mk (nB BK784 hb); have n4_ := Aside0.mk (below_step (nC HB) hb); clear HO782; clear BK762; clear BK763; clear BK784; clear HB; have HO782 := n0_; have BK762 := n1_; have BK763 := n2_; have BK784 := n3_; have HB := n4_; clear n0_ n1_ n2_ n3_ n4_; (try clear hb); (try clear hb2); (try clear hk); (try clear hi)))
                go_meet
                case rel => exact ⟨_, (false), (by first | rfl | (simp; done) | (simp [*]; done)), H', ⟨by have := HJ6.out; first | omega | exact Nat.le_refl _⟩, ⟨nR HO782⟩, ⟨nK BK762⟩, ⟨nK BK763⟩, ⟨nK BK784⟩, ⟨nC HB⟩⟩
        · replace c65 := Bool.eq_false_iff.mpr c65
          subst c65
          have H1 : (kimberlitelaw03_CurveConvex.j1 kj6 a2 a3 a4 a5 t774 t775 true a0_0 a0_1 l0_2) = some r := by rw [if_neg (show ¬ (false = true) by decide)] at H; exact H
          clear H
          have H := H1
          clear H1
          have H' := Aside0.mk H
          clear H
          have hnb95 := NB784_762.out
          have hnc95 := NB762_784.out
          have hnb96 := NB784_763.out
          have hnc96 := NB763_784.out
          have hcz97_0 : w62.cell? ⟨gb784, 0, none⟩ = some (.int .i64 t778) := (blk_cell BK784.out 0).trans rfl
          have hcz97_1 : w62.cell? ⟨gb784, 1, none⟩ = some (.int .i64 t779) := (blk_cell BK784.out 1).trans rfl
          have hcz97_2 : w62.cell? ⟨gb784, 2, none⟩ = some (.slice Ao61 t780.length co61) := (blk_cell BK784.out 2).trans rfl
          have hfz97_0 := blk_frozen BK784.out 0
          have hfz97_1 := blk_frozen BK784.out 1
          have hfz97_2 := blk_frozen BK784.out 2
          go_wp2_with (first | (go_at_call 16; (with_reducible refine (curve_Valid.calls t778 t779 _ _ t780 false _ ?side1 ?side2 A64.out).mono ?_); (case side1 => repeat (first | exact (Kd.R_reads' HO782.out).2.2 | (with_reducible refine Kd.C_alloc ?_ _) | (with_reducible refine Kd.C_drewN ?_ _) | (with_reducible refine Kd.C_drew ?_))); (case side2 => exact (Kd.R_reads' HO782.out).2.1); rintro e w98 ⟨rfl, hb⟩; have n0_ := Aside0.mk (Kd.R_below (nR HO782) hb); have n1_ := Aside0.mk (nB BK762 hb); have n2_ := Aside0.mk (nB BK763 hb); have n3_ := Aside0.mk (nB BK784 hb); have n4_ := Aside0.mk (below_step (nC HB) hb); clear HO782; clear BK762; clear BK763; clear BK784; clear HB; have HO782 := n0_; have BK762 := n1_; have BK763 := n2_; have BK784 := n3_; have HB := n4_; clear n0_ n1_ n2_ n3_ n4_; (try clear hb); (try clear hb2); (try clear hk); (try clear hi)))
          go_meet
          case rel => exact ⟨_, (true), (by first | rfl | (simp; done) | (simp [*]; done)), H', ⟨by have := HJ6.out; first | omega | exact Nat.le_refl _⟩, ⟨nR HO782⟩, ⟨nK BK762⟩, ⟨nK BK763⟩, ⟨nK BK784⟩, ⟨nC HB⟩⟩
      · rw [if_neg c63] at H
        have c63b0 : (t783 == 0) = false := beq_eq_false_iff_ne.mpr c63
        have c63b1 : (t783 != 0) = true := bne_iff_ne.mpr c63
        (first | rw [c63b0] | (simp only [i64_w, i32_w]; rw [c63b0]) | skip)
        have H' := Aside0.mk H
        clear H
        go_wp2
        go_meet
        case rel => exact ⟨_, (false), (by first | rfl | (simp; done) | (simp [*]; done)), H', ⟨by have := HJ6.out; first | omega | exact Nat.le_refl _⟩, ⟨nR HO782⟩, ⟨nK BK762⟩, ⟨nK BK763⟩, ⟨nK BK784⟩, ⟨nC HB⟩⟩
     case rest =>
      as_aux_lemma =>
      clear HC48
      try clear c1
      try clear c2
      try clear p2
      try clear c3
      try clear c4
      try clear c5
      try clear c6
      try clear p6
      try clear c7
      try clear c8
      try clear c9
      try clear c11
      try clear c13
      try clear c16
      try clear c18
      try clear c21
      try clear c23
      try clear c23b0
      try clear c23b1
      try clear c25
      try clear c30
      try clear c31
      try clear c35
      try clear c38
      try clear c40
      try clear c41
      try clear c49
      try clear c58
      try clear c59
      try clear c63
      try clear c63b0
      try clear c63b1
      try clear p64
      try clear c65
      try clear c66
      try clear c67
      try clear c67b0
      try clear c67b1
      try clear c67b2
      try clear c68
      try clear c69
      try clear c72
      try clear c73
      try clear c74
      try clear c77
      try clear c78
      try clear c81
      try clear c81b0
      try clear c81b1
      try clear c81b2
      try clear c82
      try clear c83
      try clear c86
      try clear c87
      try clear c88
      try clear c91
      try clear c92
      try clear c95
      try clear c96
      try clear hcz14_0
      try clear hcz14_1
      try clear hcz14_2
      try clear hcz16_0
      try clear hcz16_1
      try clear hcz16_2
      try clear hcz19_0
      try clear hcz19_1
      try clear hcz19_2
      try clear hcz26_0
      try clear hcz26_1
      try clear hcz26_2
      try clear hcz27_0
      try clear hcz27_1
      try clear hcz27_2
      try clear hcz32_0
      try clear hcz32_1
      try clear hcz32_2
      try clear hcz36_0
      try clear hcz36_1
      try clear hcz36_2
      try clear hcz37_0
      try clear hcz37_1
      try clear hcz37_2
      try clear hcz42_0
      try clear hcz42_1
      try clear hcz42_2
      try clear hcz50_0
      try clear hcz50_1
      try clear hcz50_2
      try clear hcz52_0
      try clear hcz52_1
      try clear hcz52_2
      try clear hcz54_0
      try clear hcz54_1
      try clear hcz54_2
      try clear hcz55_0
      try clear hcz55_1
      try clear hcz55_2
      try clear hcz60_0
      try clear hcz60_1
      try clear hcz60_2
      try clear hcz70_0
      try clear hcz70_1
      try clear hcz70_2
      try clear hcz75_0
      try clear hcz75_1
      try clear hcz75_2
      try clear hcz79_0
      try clear hcz79_1
      try clear hcz79_2
      try clear hcz84_0
      try clear hcz84_1
      try clear hcz84_2
      try clear hcz89_0
      try clear hcz89_1
      try clear hcz89_2
      try clear hcz93_0
      try clear hcz93_1
      try clear hcz93_2
      try clear hcz97_0
      try clear hcz97_1
      try clear hcz97_2
      try clear hfz14_0
      try clear hfz14_1
      try clear hfz14_2
      try clear hfz16_0
      try clear hfz16_1
      try clear hfz16_2
      try clear hfz19_0
      try clear hfz19_1
      try clear hfz19_2
      try clear hfz26_0
      try clear hfz26_1
      try clear hfz26_2
      try clear hfz27_0
      try clear hfz27_1
      try clear hfz27_2
      try clear hfz32_0
      try clear hfz32_1
      try clear hfz32_2
      try clear hfz36_0
      try clear hfz36_1
      try clear hfz36_2
      try clear hfz37_0
      try clear hfz37_1
      try clear hfz37_2
      try clear hfz42_0
      try clear hfz42_1
      try clear hfz42_2
      try clear hfz50_0
      try clear hfz50_1
      try clear hfz50_2
      try clear hfz52_0
      try clear hfz52_1
      try clear hfz52_2
      try clear hfz54_0
      try clear hfz54_1
      try clear hfz54_2
      try clear hfz55_0
      try clear hfz55_1
      try clear hfz55_2
      try clear hfz60_0
      try clear hfz60_1
      try clear hfz60_2
      try clear hfz70_0
      try clear hfz70_1
      try clear hfz70_2
      try clear hfz75_0
      try clear hfz75_1
      try clear hfz75_2
      try clear hfz79_0
      try clear hfz79_1
      try clear hfz79_2
      try clear hfz84_0
      try clear hfz84_1
      try clear hfz84_2
      try clear hfz89_0
      try clear hfz89_1
      try clear hfz89_2
      try clear hfz93_0
      try clear hfz93_1
      try clear hfz93_2
      try clear hfz97_0
      try clear hfz97_1
      try clear hfz97_2
      try clear p2
      obtain ⟨kq, x90_47, rfl, HA, HJ47, HO_785002, BK762, BK763, BK784, HB⟩ := hcut
      cases kq with
      | zero => exact absurd HA.out (by simp [kimberlitelaw03_CurveConvex.j1])
      | succ kj47 =>
       have H := HA.out
       clear HA
       simp only [kimberlitelaw03_CurveConvex.j1] at H
       by_cases c99 : x90_47 = true
       · subst c99
         have H1 : (some false) = some r := by rw [if_pos rfl] at H; exact H
         clear H
         have H := H1
         clear H1
         obtain rfl := Option.some.inj H
         go_wp2
         go_ret
         exact ⟨by first | rfl | (simp [errW_none, errW_some] <;> rfl) | (simp [*, errW_none, errW_some] <;> rfl), nC HB⟩
       · replace c99 := Bool.eq_false_iff.mpr c99
         subst c99
         have H1 : ((curve_Flip.f kj47 a0_0 a0_1 l0_2).bind fun bt788 => ((kimberlitelaw03_at.f bt788.1 bt788.2.1 bt788.2.2.1 (wrap64 (-a5))).bind fun bt794 => (if bt788.2.2.2 = 0 then (if a5 > (-1099511627776) then ((curve_Valid.f bt788.1 bt788.2.1 bt788.2.2.1).bind fun t796 => (if t796 = true then (if (bt794.2 != t775) = true then (kimberlitelaw03_CurveConvex.j2 kj47 a2 a3 a4 a5 t774 t775 true a0_0 a0_1 l0_2) else (if bt794.2 = true then (kimberlitelaw03_CurveConvex.j2 kj47 a2 a3 a4 a5 t774 t775 (bt794.1 != t774) a0_0 a0_1 l0_2) else (kimberlitelaw03_CurveConvex.j2 kj47 a2 a3 a4 a5 t774 t775 false a0_0 a0_1 l0_2))) else (kimberlitelaw03_CurveConvex.j2 kj47 a2 a3 a4 a5 t774 t775 true a0_0 a0_1 l0_2))) else (kimberlitelaw03_CurveConvex.j2 kj47 a2 a3 a4 a5 t774 t775 false a0_0 a0_1 l0_2)) else (kimberlitelaw03_CurveConvex.j2 kj47 a2 a3 a4 a5 t774 t775 false a0_0 a0_1 l0_2)))) = some r := by rw [if_neg (show ¬ (false = true) by decide)] at H; exact H
         clear H
         have H := H1
         clear H1
         replace H := Option.bind_eq_some_iff.mp H
         obtain ⟨⟨t788, t789, t790, t793⟩, A1000, H⟩ := H
         replace H : ((kimberlitelaw03_at.f t788 t789 t790 (wrap64 (-a5))).bind fun bt794 => (if t793 = 0 then (if a5 > (-1099511627776) then ((curve_Valid.f t788 t789 t790).bind fun t796 => (if t796 = true then (if (bt794.2 != t775) = true then (kimberlitelaw03_CurveConvex.j2 kj47 a2 a3 a4 a5 t774 t775 true a0_0 a0_1 l0_2) else (if bt794.2 = true then (kimberlitelaw03_CurveConvex.j2 kj47 a2 a3 a4 a5 t774 t775 (bt794.1 != t774) a0_0 a0_1 l0_2) else (kimberlitelaw03_CurveConvex.j2 kj47 a2 a3 a4 a5 t774 t775 false a0_0 a0_1 l0_2))) else (kimberlitelaw03_CurveConvex.j2 kj47 a2 a3 a4 a5 t774 t775 true a0_0 a0_1 l0_2))) else (kimberlitelaw03_CurveConvex.j2 kj47 a2 a3 a4 a5 t774 t775 false a0_0 a0_1 l0_2)) else (kimberlitelaw03_CurveConvex.j2 kj47 a2 a3 a4 a5 t774 t775 false a0_0 a0_1 l0_2))) = some r := H
         have A100 := Aside0.mk A1000
         clear A1000
         replace H := Option.bind_eq_some_iff.mp H
         obtain ⟨⟨t794, t795⟩, A1010, H⟩ := H
         replace H : (if t793 = 0 then (if a5 > (-1099511627776) then ((curve_Valid.f t788 t789 t790).bind fun t796 => (if t796 = true then (if (t795 != t775) = true then (kimberlitelaw03_CurveConvex.j2 kj47 a2 a3 a4 a5 t774 t775 true a0_0 a0_1 l0_2) else (if t795 = true then (kimberlitelaw03_CurveConvex.j2 kj47 a2 a3 a4 a5 t774 t775 (t794 != t774) a0_0 a0_1 l0_2) else (kimberlitelaw03_CurveConvex.j2 kj47 a2 a3 a4 a5 t774 t775 false a0_0 a0_1 l0_2))) else (kimberlitelaw03_CurveConvex.j2 kj47 a2 a3 a4 a5 t774 t775 true a0_0 a0_1 l0_2))) else (kimberlitelaw03_CurveConvex.j2 kj47 a2 a3 a4 a5 t774 t775 false a0_0 a0_1 l0_2)) else (kimberlitelaw03_CurveConvex.j2 kj47 a2 a3 a4 a5 t774 t775 false a0_0 a0_1 l0_2)) = some r := H
         have A101 := Aside0.mk A1010
         clear A1010
         have HC102 := Aside0.mk H
         clear H
         have hnb103 := NB762_763.out
         have hnc103 := NB763_762.out
         have hnb104 := NB762_784.out
         have hnc104 := NB784_762.out
         have hcz105_0 : wc.cell? ⟨gb762, 0, none⟩ = some (.int .i64 a0_0) := (blk_cell BK762.out 0).trans rfl
         have hcz105_1 : wc.cell? ⟨gb762, 1, none⟩ = some (.int .i64 a0_1) := (blk_cell BK762.out 1).trans rfl
         have hcz105_2 : wc.cell? ⟨gb762, 2, none⟩ = some (.slice A0_2 l0_2.length c0_2) := (blk_cell BK762.out 2).trans rfl
         have hfz105_0 := blk_frozen BK762.out 0
         have hfz105_1 := blk_frozen BK762.out 1
         have hfz105_2 := blk_frozen BK762.out 2
         go_upto_region 12 with (first | ((with_reducible refine gate_callee (f := 41) rfl ?_); refine goesL_ (some 93) rfl rfl Try.func41 (by kernel_rfl) rfl #[.agg #[.int .i64 a0_0, .int .i64 a0_1, .slice A0_2 l0_2.length c0_2]] rfl (by (try simp only [List.map_toArray, List.map_cons, List.map_nil]); first | done | rfl | (simp only [List.length_drop, List.length_take]; rfl)) ?_; (with_reducible refine (curve_Flip.calls kj47 a0_0 a0_1 _ _ l0_2 t788 t789 t790 t793 _ ?side1 ?side2 A100.out).mono ?_); (case side1 => repeat (first | exact (Kd.C_below HR0_2.out HB.out) | (with_reducible refine Kd.C_alloc ?_ _) | (with_reducible refine Kd.C_drewN ?_ _) | (with_reducible refine Kd.C_drew ?_))); (case side2 => exact HC0_2.out); rintro e w106 ⟨v791, rfl, ho0, hb⟩; refine ⟨_, rfl, ?_⟩; have n0_ := Aside0.mk (Kd.R_elder' (nR HO_785002) (Kd.R_base ho0) hb); have n1_ := Aside0.mk (Kd.R_lower (Kd.R_new' ho0 (Kd.R_lt (nR HO_785002))) (below_size (nC HB))); have n2_ := Aside0.mk (nB BK762 hb); have n3_ := Aside0.mk (nB BK763 hb); have n4_ := Aside0.mk (nB BK784 hb); have n5_ := Aside0.mk (below_step (nC HB) hb); clear HO_785002; clear BK762; clear BK763; clear BK784; clear HB; have HO_785002 := n0_; have HO792 := n1_; have BK762 := n2_; have BK763 := n3_; have BK784 := n4_; have HB := n5_; clear n0_ n1_ n2_ n3_ n4_ n5_; (try clear hb); (try clear hb2); (try clear hk); (try clear hi); (try clear ho0); have hnb107 := NB784_763.out; have hnc107 := NB763_784.out; have hcz108_0 : w106.cell? ⟨gb784, 0, none⟩ = some (.int .i64 t778) := (blk_cell BK784.out 0).trans rfl; have hcz108_1 : w106.cell? ⟨gb784, 1, none⟩ = some (.int .i64 t779) := (blk_cell BK784.out 1).trans rfl; have hcz108_2 : w106.cell? ⟨gb784, 2, none⟩ = some (.slice Ao61 t780.length co61) := (blk_cell BK784.out 2).trans rfl; have hfz108_0 := blk_frozen BK784.out 0; have hfz108_1 := blk_frozen BK784.out 1; have hfz108_2 := blk_frozen BK784.out 2; obtain ⟨Ao109, co109, eo109⟩ := Kd.R_slice HO792.out; subst eo109) | ((with_reducible refine gate_callee (f := 18) rfl ?_); refine goesL_ (some 100) rfl rfl Try.func18 (by kernel_rfl) rfl #[.agg #[.int .i64 t788, .int .i64 t789, .slice Ao109 t790.length co109], .int .i64 (wrap64 (-a5))] rfl (by (try simp only [List.map_toArray, List.map_cons, List.map_nil]); first | done | rfl | (simp only [List.length_drop, List.length_take]; rfl)) ?_; (with_reducible refine (kimberlitelaw03_at.calls t788 t789 _ _ t790 (wrap64 (-a5)) t794 t795 _ ?side1 ?side2 A101.out).mono ?_); (case side1 => refine (Kd.R_reads' (e := 3) (base := w.heap.size) (ok := fun k_ => (True ∧ some k_ ≠ (.slice Ao61 t780.length co61 : Value).ownBlock)) (n := t790.length) (c := co109) ?_).2.2; exact (by (with_reducible repeat (first | apply Kd.R_alloc | apply Kd.R_drewN | apply Kd.R_drew)); exact (Kd.R_mono (Kd.R_far (p := ⟨gb784, 2, none⟩) (Kd.R_far (p := ⟨gb784, 1, none⟩) (Kd.R_far (p := ⟨gb784, 0, none⟩) (Kd.R_types HO792.out BK784.out (by decide)) (fun _ hk => hk.2) (.int .i64 t788)) (fun _ hk => hk.2) (.int .i64 t789)) (fun _ hk => hk.2) (.slice Ao109 t790.length co109)) (fun _ h_ => h_.1)))); (case side2 => exact (Kd.R_reads' HO792.out).2.1); rintro e w110 ⟨rfl, hb⟩; refine ⟨_, rfl, ?_⟩; have n0_ := Aside0.mk (Kd.R_below (by (with_reducible repeat (first | apply Kd.R_alloc | apply Kd.R_drewN | apply Kd.R_drew)); exact (Kd.R_mono (Kd.R_far (p := ⟨gb784, 2, none⟩) (Kd.R_far (p := ⟨gb784, 1, none⟩) (Kd.R_far (p := ⟨gb784, 0, none⟩) (Kd.R_types HO_785002.out BK784.out (by decide)) (fun _ hk => hk.2) (.int .i64 t788)) (fun _ hk => hk.2) (.int .i64 t789)) (fun _ hk => hk.2) (.slice Ao109 t790.length co109)) (fun _ h_ => h_.1))) hb); have n1_ := Aside0.mk (Kd.R_below (by (with_reducible repeat (first | apply Kd.R_alloc | apply Kd.R_drewN | apply Kd.R_drew)); exact (Kd.R_mono (Kd.R_far (p := ⟨gb784, 2, none⟩) (Kd.R_far (p := ⟨gb784, 1, none⟩) (Kd.R_far (p := ⟨gb784, 0, none⟩) (Kd.R_types HO792.out BK784.out (by decide)) (fun _ hk => hk.2) (.int .i64 t788)) (fun _ hk => hk.2) (.int .i64 t789)) (fun _ hk => hk.2) (.slice Ao109 t790.length co109)) (fun _ h_ => h_.1))) hb); have n2_ := Aside0.mk (blk_below (g := gb762) (o := .cells #[.int .i64 a0_0, .int .i64 a0_1, .slice A0_2 l0_2.length c0_2] 24 (0, 0)) (by (with_reducible repeat (first | refine blk_drewN ?_ _ | refine blk_drew ?_ | refine blk_alloc ?_ _)); refine blk_far ?_ NB762_784.out _; (with_reducible repeat (first | refine blk_drewN ?_ _ | refine blk_drew ?_ | refine blk_alloc ?_ _)); refine blk_far ?_ NB762_784.out _; (with_reducible repeat (first | refine blk_drewN ?_ _ | refine blk_drew ?_ | refine blk_alloc ?_ _)); refine blk_far ?_ NB762_784.out _; (with_reducible repeat (first | refine blk_drewN ?_ _ | refine blk_drew ?_ | refine blk_alloc ?_ _)); exact BK762.out) hb); have n3_ := Aside0.mk (blk_below (g := gb763) (o := .cells #[.int .i64 a1_0, .int .i64 a1_1, .slice A1_2 l1_2.length c1_2] 24 (0, 0)) (by (with_reducible repeat (first | refine blk_drewN ?_ _ | refine blk_drew ?_ | refine blk_alloc ?_ _)); refine blk_far ?_ NB763_784.out _; (with_reducible repeat (first | refine blk_drewN ?_ _ | refine blk_drew ?_ | refine blk_alloc ?_ _)); refine blk_far ?_ NB763_784.out _; (with_reducible repeat (first | refine blk_drewN ?_ _ | refine blk_drew ?_ | refine blk_alloc ?_ _)); refine blk_far ?_ NB763_784.out _; (with_reducible repeat (first | refine blk_drewN ?_ _ | refine blk_drew ?_ | refine blk_alloc ?_ _)); exact BK763.out) hb); have n4_ := Aside0.mk (blk_below (g := gb784) (o := .cells #[.int .i64 t788, .int .i64 t789, .slice Ao109 t790.length co109] 24 (0, 0)) (by (with_reducible repeat (first | refine blk_drewN ?_ _ | refine blk_drew ?_ | refine blk_alloc ?_ _)); refine blk_put (cs := #[.int .i64 t788, .int .i64 t789, .slice Ao61 t780.length co61]) ?_ 2 _ rfl; (with_reducible repeat (first | refine blk_drewN ?_ _ | refine blk_drew ?_ | refine blk_alloc ?_ _)); refine blk_put (cs := #[.int .i64 t788, .int .i64 t779, .slice Ao61 t780.length co61]) ?_ 1 _ rfl; (with_reducible repeat (first | refine blk_drewN ?_ _ | refine blk_drew ?_ | refine blk_alloc ?_ _)); refine blk_put (cs := #[.int .i64 t778, .int .i64 t779, .slice Ao61 t780.length co61]) ?_ 0 _ rfl; (with_reducible repeat (first | refine blk_drewN ?_ _ | refine blk_drew ?_ | refine blk_alloc ?_ _)); exact BK784.out) hb); have n5_ := Aside0.mk (below_step (nC HB) hb); clear HO_785002; clear HO792; clear BK762; clear BK763; clear BK784; clear HB; have HO_785002 := n0_; have HO792 := n1_; have BK762 := n2_; have BK763 := n3_; have BK784 := n4_; have HB := n5_; clear n0_ n1_ n2_ n3_ n4_ n5_; (try clear hb); (try clear hb2); (try clear hk); (try clear hi)))
         (try simp only [Act.put, List.setIfInBounds_toArray, List.set_cons_zero, List.set_cons_succ])
         go_cut [126] (fun v126 wc => ∃ (kq : Nat) (x126_101 : Bool), v126 = .bool x126_101 ∧ Aside0 (kimberlitelaw03_CurveConvex.j2 kq a2 a3 a4 a5 t774 t775 x126_101 a0_0 a0_1 l0_2 = some r) ∧ Aside0 (kq ≤ kj47) ∧ Aside0 (Kd.R (Kd.int .i64) 3 wc w.heap.size (fun _ => True) (.slice Ao109 t790.length co109) t790) ∧ Aside0 (wc.heap[gb762]? = some (.cells #[.int .i64 a0_0, .int .i64 a0_1, (.slice A0_2 l0_2.length c0_2)] 24 (0, 0))) ∧ Aside0 (wc.heap[gb763]? = some (.cells #[.int .i64 a1_0, .int .i64 a1_1, (.slice A1_2 l1_2.length c1_2)] 24 (0, 0))) ∧ Aside0 (wc.heap[gb784]? = some (.cells #[.int .i64 t788, .int .i64 t789, (.slice Ao109 t790.length co109)] 24 (0, 0))) ∧ Aside0 (Below w.heap.size w wc))
         case first =>
          as_aux_lemma =>
          have H := HC102.out
          clear HC102
          by_cases c111 : t793 = 0
          · rw [if_pos c111] at H
            have c111b0 : (t793 == 0) = true := beq_iff_eq.mpr c111
            have c111b1 : (t793 != 0) = false := bne_eq_false_iff_eq.mpr c111
            clear c111
            (first | rw [c111b0] | (simp only [i64_w, i32_w]; rw [c111b0]) | skip)
            by_cases c112 : a5 > (-1099511627776)
            · rw [if_pos c112] at H
              have c112b0 : decide ((-1099511627776) < a5) = true := decide_eq_true c112
              clear c112
              replace H := Option.bind_eq_some_iff.mp H
              obtain ⟨t796, A1130, H⟩ := H
              replace H : (if t796 = true then (if (t795 != t775) = true then (kimberlitelaw03_CurveConvex.j2 kj47 a2 a3 a4 a5 t774 t775 true a0_0 a0_1 l0_2) else (if t795 = true then (kimberlitelaw03_CurveConvex.j2 kj47 a2 a3 a4 a5 t774 t775 (t794 != t774) a0_0 a0_1 l0_2) else (kimberlitelaw03_CurveConvex.j2 kj47 a2 a3 a4 a5 t774 t775 false a0_0 a0_1 l0_2))) else (kimberlitelaw03_CurveConvex.j2 kj47 a2 a3 a4 a5 t774 t775 true a0_0 a0_1 l0_2)) = some r := H
              have A113 := Aside0.mk A1130
              clear A1130
              by_cases c114 : t796 = true
              · subst c114
                have H1 : (if (t795 != t775) = true then (kimberlitelaw03_CurveConvex.j2 kj47 a2 a3 a4 a5 t774 t775 true a0_0 a0_1 l0_2) else (if t795 = true then (kimberlitelaw03_CurveConvex.j2 kj47 a2 a3 a4 a5 t774 t775 (t794 != t774) a0_0 a0_1 l0_2) else (kimberlitelaw03_CurveConvex.j2 kj47 a2 a3 a4 a5 t774 t775 false a0_0 a0_1 l0_2))) = some r := by rw [if_pos rfl] at H; exact H
                clear H
                have H := H1
                clear H1
                by_cases c115 : (t795 != t775) = true
                · rw [if_pos c115] at H
                  have c115b0 : (t795 != t775) = true := c115
                  (try (have c115b1 : decide (t795 = t775) = false := by simpa using c115))
                  (try (have c115b2 : (t795 == t775) = false := by simpa using c115))
                  (try (have c115b3 : ¬ (t795 = t775) := by simpa using c115))
                  clear c115
                  have H' := Aside0.mk H
                  clear H
                  have hnb116 := NB784_762.out
                  have hnc116 := NB762_784.out
                  have hnb117 := NB784_763.out
                  have hnc117 := NB763_784.out
                  have hcz118_0 : w110.cell? ⟨gb784, 0, none⟩ = some (.int .i64 t788) := (blk_cell BK784.out 0).trans rfl
                  have hcz118_1 : w110.cell? ⟨gb784, 1, none⟩ = some (.int .i64 t789) := (blk_cell BK784.out 1).trans rfl
                  have hcz118_2 : w110.cell? ⟨gb784, 2, none⟩ = some (.slice Ao109 t790.length co109) := (blk_cell BK784.out 2).trans rfl
                  have hfz118_0 := blk_frozen BK784.out 0
                  have hfz118_1 := blk_frozen BK784.out 1
                  have hfz118_2 := blk_frozen BK784.out 2
                  go_wp2_with (first | (go_at_call 16; (with_reducible refine (curve_Valid.calls t788 t789 _ _ t790 true _ ?side1 ?side2 A113.out).mono ?_); (case side1 => repeat (first | exact (Kd.R_reads' HO792.out).2.2 | (with_reducible refine Kd.C_alloc ?_ _) | (with_reducible refine Kd.C_drewN ?_ _) | (with_reducible refine Kd.C_drew ?_))); (case side2 => exact (Kd.R_reads' HO792.out).2.1); rintro e w119 ⟨rfl, hb⟩; have n0_ := Aside0.mk (Kd.R_below (nR HO_785002) hb); have n1_ := Aside0.mk (Kd.R_below (nR HO792) hb); have n2_ := Aside0.mk (nB BK762 hb); have n3_ := Aside0.mk (nB BK763 hb); have n4_ := Aside0.mk (nB BK784 hb); have n5_ := Aside0.mk (below_step (nC HB) hb); clear HO_785002; clear HO792; clear BK762; clear BK763; clear BK784; clear HB; have HO_785002 := n0_; have HO792 := n1_; have BK762 := n2_; have BK763 := n3_; have BK784 := n4_; have HB := n5_; clear n0_ n1_ n2_ n3_ n4_ n5_; (try clear hb); (try clear hb2); (try clear hk); (try clear hi)))
                  go_meet
                  case rel => exact ⟨_, (true), (by first | rfl | (simp; done) | (simp [*]; done)), H', ⟨by have := HJ6.out; have := HJ47.out; first | omega | exact Nat.le_refl _⟩, ⟨by (with_reducible repeat (first | apply Kd.R_alloc | apply Kd.R_drewN | apply Kd.R_drew)); exact Kd.R_mono HO792.out (fun _ hk => trivial)⟩, ⟨nK BK762⟩, ⟨nK BK763⟩, ⟨nK BK784⟩, ⟨nC HB⟩⟩
                · rw [if_neg c115] at H
                  have c115b0 : (t795 != t775) = false := by simpa using c115
                  (try (have c115b1 : decide (t795 = t775) = true := by simpa using c115))
                  (try (have c115b2 : (t795 == t775) = true := by simpa using c115))
                  clear c115
                  by_cases c120 : t795 = true
                  · subst c120
                    have H1 : (kimberlitelaw03_CurveConvex.j2 kj47 a2 a3 a4 a5 t774 t775 (t794 != t774) a0_0 a0_1 l0_2) = some r := by rw [if_pos rfl] at H; exact H
                    clear H
                    have H := H1
                    clear H1
                    have H' := Aside0.mk H
                    clear H
                    have hnb121 := NB784_762.out
                    have hnc121 := NB762_784.out
                    have hnb122 := NB784_763.out
                    have hnc122 := NB763_784.out
                    have hcz123_0 : w110.cell? ⟨gb784, 0, none⟩ = some (.int .i64 t788) := (blk_cell BK784.out 0).trans rfl
                    have hcz123_1 : w110.cell? ⟨gb784, 1, none⟩ = some (.int .i64 t789) := (blk_cell BK784.out 1).trans rfl
                    have hcz123_2 : w110.cell? ⟨gb784, 2, none⟩ = some (.slice Ao109 t790.length co109) := (blk_cell BK784.out 2).trans rfl
                    have hfz123_0 := blk_frozen BK784.out 0
                    have hfz123_1 := blk_frozen BK784.out 1
                    have hfz123_2 := blk_frozen BK784.out 2
                    go_wp2_with (first | (go_at_call 16; (with_reducible refine (curve_Valid.calls t788 t789 _ _ t790 true _ ?side1 ?side2 A113.out).mono ?_); (case side1 => repeat (first | exact (Kd.R_reads' HO792.out).2.2 | (with_reducible refine Kd.C_alloc ?_ _) | (with_reducible refine Kd.C_drewN ?_ _) | (with_reducible refine Kd.C_drew ?_))); (case side2 => exact (Kd.R_reads' HO792.out).2.1); rintro e w124 ⟨rfl, hb⟩; have n0_ := Aside0.mk (Kd.R_below (nR HO_785002) hb); have n1_ := Aside0.mk (Kd.R_below (nR HO792) hb); have n2_ := Aside0.mk (nB BK762 hb); have n3_ := Aside0.mk (nB BK763 hb); have n4_ := Aside0.mk (nB BK784 hb); have n5_ := Aside0.mk (below_step (nC HB) hb); clear HO_785002; clear HO792; clear BK762; clear BK763; clear BK784; clear HB; have HO_785002 := n0_; have HO792 := n1_; have BK762 := n2_; have BK763 := n3_; have BK784 := n4_; have HB := n5_; clear n0_ n1_ n2_ n3_ n4_ n5_; (try clear hb); (try clear hb2); (try clear hk); (try clear hi)))
                    go_meet
                    case rel => exact ⟨_, ((t794 != t774)), (by first | rfl | (simp; done) | (simp [*]; done)), H', ⟨by have := HJ6.out; have := HJ47.out; first | omega | exact Nat.le_refl _⟩, ⟨by (with_reducible repeat (first | apply Kd.R_alloc | apply Kd.R_drewN | apply Kd.R_drew)); exact Kd.R_mono HO792.out (fun _ hk => trivial)⟩, ⟨nK BK762⟩, ⟨nK BK763⟩, ⟨nK BK784⟩, ⟨nC HB⟩⟩
                  · replace c120 := Bool.eq_false_iff.mpr c120
                    subst c120
                    have H1 : (kimberlitelaw03_CurveConvex.j2 kj47 a2 a3 a4 a5 t774 t775 false a0_0 a0_1 l0_2) = some r := by rw [if_neg (show ¬ (false = true) by decide)] at H; exact H
                    clear H
                    have H := H1
                    clear H1
                    have H' := Aside0.mk H
                    clear H
                    have hnb125 := NB784_762.out
                    have hnc125 := NB762_784.out
                    have hnb126 := NB784_763.out
                    have hnc126 := NB763_784.out
                    have hcz127_0 : w110.cell? ⟨gb784, 0, none⟩ = some (.int .i64 t788) := (blk_cell BK784.out 0).trans rfl
                    have hcz127_1 : w110.cell? ⟨gb784, 1, none⟩ = some (.int .i64 t789) := (blk_cell BK784.out 1).trans rfl
                    have hcz127_2 : w110.cell? ⟨gb784, 2, none⟩ = some (.slice Ao109 t790.length co109) := (blk_cell BK784.out 2).trans rfl
                    have hfz127_0 := blk_frozen BK784.out 0
                    have hfz127_1 := blk_frozen BK784.out 1
                    have hfz127_2 := blk_frozen BK784.out 2
                    go_wp2_with (first | (go_at_call 16; (with_reducible refine (curve_Valid.calls t788 t789 _ _ t790 true _ ?side1 ?side2 A113.out).mono ?_); (case side1 => repeat (first | exact (Kd.R_reads' HO792.out).2.2 | (with_reducible refine Kd.C_alloc ?_ _) | (with_reducible refine Kd.C_drewN ?_ _) | (with_reducible refine Kd.C_drew ?_))); (case side2 => exact (Kd.R_reads' HO792.out).2.1); rintro e w128 ⟨rfl, hb⟩; have n0_ := Aside0.mk (Kd.R_below (nR HO_785002) hb); have n1_ := Aside0.mk (Kd.R_below (nR HO792) hb); have n2_ := Aside0.mk (nB BK762 hb); have n3_ := Aside0.mk (nB BK763 hb); have n4_ := Aside0.mk (nB BK784 hb); have n5_ := Aside0.mk (below_step (nC HB) hb); clear HO_785002; clear HO792; clear BK762; clear BK763; clear BK784; clear HB; have HO_785002 := n0_; have HO792 := n1_; have BK762 := n2_; have BK763 := n3_; have BK784 := n4_; have HB := n5_; clear n0_ n1_ n2_ n3_ n4_ n5_; (try clear hb); (try clear hb2); (try clear hk); (try clear hi)))
                    go_meet
                    case rel => exact ⟨_, (false), (by first | rfl | (simp; done) | (simp [*]; done)), H', ⟨by have := HJ6.out; have := HJ47.out; first | omega | exact Nat.le_refl _⟩, ⟨by (with_reducible repeat (first | apply Kd.R_alloc | apply Kd.R_drewN | apply Kd.R_drew)); exact Kd.R_mono HO792.out (fun _ hk => trivial)⟩, ⟨nK BK762⟩, ⟨nK BK763⟩, ⟨nK BK784⟩, ⟨nC HB⟩⟩
              · replace c114 := Bool.eq_false_iff.mpr c114
                subst c114
                have H1 : (kimberlitelaw03_CurveConvex.j2 kj47 a2 a3 a4 a5 t774 t775 true a0_0 a0_1 l0_2) = some r := by rw [if_neg (show ¬ (false = true) by decide)] at H; exact H
                clear H
                have H := H1
                clear H1
                have H' := Aside0.mk H
                clear H
                have hnb129 := NB784_762.out
                have hnc129 := NB762_784.out
                have hnb130 := NB784_763.out
                have hnc130 := NB763_784.out
                have hcz131_0 : w110.cell? ⟨gb784, 0, none⟩ = some (.int .i64 t788) := (blk_cell BK784.out 0).trans rfl
                have hcz131_1 : w110.cell? ⟨gb784, 1, none⟩ = some (.int .i64 t789) := (blk_cell BK784.out 1).trans rfl
                have hcz131_2 : w110.cell? ⟨gb784, 2, none⟩ = some (.slice Ao109 t790.length co109) := (blk_cell BK784.out 2).trans rfl
                have hfz131_0 := blk_frozen BK784.out 0
                have hfz131_1 := blk_frozen BK784.out 1
                have hfz131_2 := blk_frozen BK784.out 2
                go_wp2_with (first | (go_at_call 16; (with_reducible refine (curve_Valid.calls t788 t789 _ _ t790 false _ ?side1 ?side2 A113.out).mono ?_); (case side1 => repeat (first | exact (Kd.R_reads' HO792.out).2.2 | (with_reducible refine Kd.C_alloc ?_ _) | (with_reducible refine Kd.C_drewN ?_ _) | (with_reducible refine Kd.C_drew ?_))); (case side2 => exact (Kd.R_reads' HO792.out).2.1); rintro e w132 ⟨rfl, hb⟩; have n0_ := Aside0.mk (Kd.R_below (nR HO_785002) hb); have n1_ := Aside0.mk (Kd.R_below (nR HO792) hb); have n2_ := Aside0.mk (nB BK762 hb); have n3_ := Aside0.mk (nB BK763 hb); have n4_ := Aside0.mk (nB BK784 hb); have n5_ := Aside0.mk (below_step (nC HB) hb); clear HO_785002; clear HO792; clear BK762; clear BK763; clear BK784; clear HB; have HO_785002 := n0_; have HO792 := n1_; have BK762 := n2_; have BK763 := n3_; have BK784 := n4_; have HB := n5_; clear n0_ n1_ n2_ n3_ n4_ n5_; (try clear hb); (try clear hb2); (try clear hk); (try clear hi)))
                go_meet
                case rel => exact ⟨_, (true), (by first | rfl | (simp; done) | (simp [*]; done)), H', ⟨by have := HJ6.out; have := HJ47.out; first | omega | exact Nat.le_refl _⟩, ⟨by (with_reducible repeat (first | apply Kd.R_alloc | apply Kd.R_drewN | apply Kd.R_drew)); exact Kd.R_mono HO792.out (fun _ hk => trivial)⟩, ⟨nK BK762⟩, ⟨nK BK763⟩, ⟨nK BK784⟩, ⟨nC HB⟩⟩
            · rw [if_neg c112] at H
              have c112b0 : decide ((-1099511627776) < a5) = false := decide_eq_false c112
              clear c112
              have H' := Aside0.mk H
              clear H
              go_wp2
              go_meet
              case rel => exact ⟨_, (false), (by first | rfl | (simp; done) | (simp [*]; done)), H', ⟨by have := HJ6.out; have := HJ47.out; first | omega | exact Nat.le_refl _⟩, ⟨by (with_reducible repeat (first | apply Kd.R_alloc | apply Kd.R_drewN | apply Kd.R_drew)); exact Kd.R_mono HO792.out (fun _ hk => trivial)⟩, ⟨nK BK762⟩, ⟨nK BK763⟩, ⟨nK BK784⟩, ⟨nC HB⟩⟩
          · rw [if_neg c111] at H
            have c111b0 : (t793 == 0) = false := beq_eq_false_iff_ne.mpr c111
            have c111b1 : (t793 != 0) = true := bne_iff_ne.mpr c111
            (first | rw [c111b0] | (simp only [i64_w, i32_w]; rw [c111b0]) | skip)
            have H' := Aside0.mk H
            clear H
            go_wp2
            go_meet
            case rel => exact ⟨_, (false), (by first | rfl | (simp; done) | (simp [*]; done)), H', ⟨by have := HJ6.out; have := HJ47.out; first | omega | exact Nat.le_refl _⟩, ⟨by (with_reducible repeat (first | apply Kd.R_alloc | apply Kd.R_drewN | apply Kd.R_drew)); exact Kd.R_mono HO792.out (fun _ hk => trivial)⟩, ⟨nK BK762⟩, ⟨nK BK763⟩, ⟨nK BK784⟩, ⟨nC HB⟩⟩
         case rest =>
          as_aux_lemma =>
          clear HC102
          try clear c1
          try clear c2
          try clear p2
          try clear c3
          try clear c4
          try clear c5
          try clear c6
          try clear p6
          try clear c7
          try clear c8
          try clear c9
          try clear c10
          try clear c11
          try clear c12
          try clear c13
          try clear c16
          try clear c18
          try clear c21
          try clear c23
          try clear c23b0
          try clear c23b1
          try clear c25
          try clear c30
          try clear c31
          try clear c35
          try clear c38
          try clear c40
          try clear c41
          try clear c49
          try clear c58
          try clear c59
          try clear c63
          try clear c63b0
          try clear c63b1
          try clear p64
          try clear c65
          try clear c66
          try clear c67
          try clear c67b0
          try clear c67b1
          try clear c67b2
          try clear c68
          try clear c69
          try clear c72
          try clear c73
          try clear c74
          try clear c77
          try clear c78
          try clear c81
          try clear c81b0
          try clear c81b1
          try clear c81b2
          try clear c82
          try clear c83
          try clear c86
          try clear c87
          try clear c88
          try clear c91
          try clear c92
          try clear c95
          try clear c96
          try clear c99
          try clear c103
          try clear c104
          try clear c107
          try clear c111
          try clear c111b0
          try clear c111b1
          try clear c112
          try clear c112b0
          try clear c114
          try clear c115
          try clear c115b0
          try clear c115b1
          try clear c115b2
          try clear c116
          try clear c117
          try clear c120
          try clear c121
          try clear c122
          try clear c125
          try clear c126
          try clear c129
          try clear c130
          try clear hcz105_0
          try clear hcz105_1
          try clear hcz105_2
          try clear hcz108_0
          try clear hcz108_1
          try clear hcz108_2
          try clear hcz118_0
          try clear hcz118_1
          try clear hcz118_2
          try clear hcz123_0
          try clear hcz123_1
          try clear hcz123_2
          try clear hcz127_0
          try clear hcz127_1
          try clear hcz127_2
          try clear hcz131_0
          try clear hcz131_1
          try clear hcz131_2
          try clear hcz14_0
          try clear hcz14_1
          try clear hcz14_2
          try clear hcz16_0
          try clear hcz16_1
          try clear hcz16_2
          try clear hcz19_0
          try clear hcz19_1
          try clear hcz19_2
          try clear hcz26_0
          try clear hcz26_1
          try clear hcz26_2
          try clear hcz27_0
          try clear hcz27_1
          try clear hcz27_2
          try clear hcz32_0
          try clear hcz32_1
          try clear hcz32_2
          try clear hcz36_0
          try clear hcz36_1
          try clear hcz36_2
          try clear hcz37_0
          try clear hcz37_1
          try clear hcz37_2
          try clear hcz42_0
          try clear hcz42_1
          try clear hcz42_2
          try clear hcz50_0
          try clear hcz50_1
          try clear hcz50_2
          try clear hcz52_0
          try clear hcz52_1
          try clear hcz52_2
          try clear hcz54_0
          try clear hcz54_1
          try clear hcz54_2
          try clear hcz55_0
          try clear hcz55_1
          try clear hcz55_2
          try clear hcz60_0
          try clear hcz60_1
          try clear hcz60_2
          try clear hcz70_0
          try clear hcz70_1
          try clear hcz70_2
          try clear hcz75_0
          try clear hcz75_1
          try clear hcz75_2
          try clear hcz79_0
          try clear hcz79_1
          try clear hcz79_2
          try clear hcz84_0
          try clear hcz84_1
          try clear hcz84_2
          try clear hcz89_0
          try clear hcz89_1
          try clear hcz89_2
          try clear hcz93_0
          try clear hcz93_1
          try clear hcz93_2
          try clear hcz97_0
          try clear hcz97_1
          try clear hcz97_2
          try clear hfz105_0
          try clear hfz105_1
          try clear hfz105_2
          try clear hfz108_0
          try clear hfz108_1
          try clear hfz108_2
          try clear hfz118_0
          try clear hfz118_1
          try clear hfz118_2
          try clear hfz123_0
          try clear hfz123_1
          try clear hfz123_2
          try clear hfz127_0
          try clear hfz127_1
          try clear hfz127_2
          try clear hfz131_0
          try clear hfz131_1
          try clear hfz131_2
          try clear hfz14_0
          try clear hfz14_1
          try clear hfz14_2
          try clear hfz16_0
          try clear hfz16_1
          try clear hfz16_2
          try clear hfz19_0
          try clear hfz19_1
          try clear hfz19_2
          try clear hfz26_0
          try clear hfz26_1
          try clear hfz26_2
          try clear hfz27_0
          try clear hfz27_1
          try clear hfz27_2
          try clear hfz32_0
          try clear hfz32_1
          try clear hfz32_2
          try clear hfz36_0
          try clear hfz36_1
          try clear hfz36_2
          try clear hfz37_0
          try clear hfz37_1
          try clear hfz37_2
          try clear hfz42_0
          try clear hfz42_1
          try clear hfz42_2
          try clear hfz50_0
          try clear hfz50_1
          try clear hfz50_2
          try clear hfz52_0
          try clear hfz52_1
          try clear hfz52_2
          try clear hfz54_0
          try clear hfz54_1
          try clear hfz54_2
          try clear hfz55_0
          try clear hfz55_1
          try clear hfz55_2
          try clear hfz60_0
          try clear hfz60_1
          try clear hfz60_2
          try clear hfz70_0
          try clear hfz70_1
          try clear hfz70_2
          try clear hfz75_0
          try clear hfz75_1
          try clear hfz75_2
          try clear hfz79_0
          try clear hfz79_1
          try clear hfz79_2
          try clear hfz84_0
          try clear hfz84_1
          try clear hfz84_2
          try clear hfz89_0
          try clear hfz89_1
          try clear hfz89_2
          try clear hfz93_0
          try clear hfz93_1
          try clear hfz93_2
          try clear hfz97_0
          try clear hfz97_1
          try clear hfz97_2
          try clear p2
          try clear p6
          try clear p64
          obtain ⟨kq, x126_101, rfl, HA, HJ101, HO_785002, BK762, BK763, BK784, HB⟩ := hcut
          cases kq with
          | zero => exact absurd HA.out (by simp [kimberlitelaw03_CurveConvex.j2])
          | succ kj101 =>
           have H := HA.out
           clear HA
           simp only [kimberlitelaw03_CurveConvex.j2] at H
           by_cases c133 : x126_101 = true
           · subst c133
             have H1 : (some false) = some r := by rw [if_pos rfl] at H; exact H
             clear H
             have H := H1
             clear H1
             obtain rfl := Option.some.inj H
             go_wp2
             go_ret
             exact ⟨by first | rfl | (simp [errW_none, errW_some] <;> rfl) | (simp [*, errW_none, errW_some] <;> rfl), nC HB⟩
           · replace c133 := Bool.eq_false_iff.mpr c133
             subst c133
             have H1 : ((curve_Tilt.f kj101 a0_0 a0_1 l0_2 a2).bind fun bt797 => ((kimberlitelaw03_at.f bt797.1 bt797.2.1 bt797.2.2.1 a5).bind fun bt803 => (if bt797.2.2.2 = 0 then ((curve_Valid.f bt797.1 bt797.2.1 bt797.2.2.1).bind fun t805 => (if t805 = true then (if (bt803.2 != t775) = true then (kimberlitelaw03_CurveConvex.j3 kj101 a3 a4 a5 t774 t775 true a0_0 a0_1 l0_2) else (if bt803.2 = true then (kimberlitelaw03_CurveConvex.j3 kj101 a3 a4 a5 t774 t775 (bt803.1 != (wrap64 (t774 + (wrap64 (a2 * a5))))) a0_0 a0_1 l0_2) else (kimberlitelaw03_CurveConvex.j3 kj101 a3 a4 a5 t774 t775 false a0_0 a0_1 l0_2))) else (kimberlitelaw03_CurveConvex.j3 kj101 a3 a4 a5 t774 t775 true a0_0 a0_1 l0_2))) else (kimberlitelaw03_CurveConvex.j3 kj101 a3 a4 a5 t774 t775 false a0_0 a0_1 l0_2)))) = some r := by rw [if_neg (show ¬ (false = true) by decide)] at H; exact H
             clear H
             have H := H1
             clear H1
             replace H := Option.bind_eq_some_iff.mp H
             obtain ⟨⟨t797, t798, t799, t802⟩, A1340, H⟩ := H
             replace H : ((kimberlitelaw03_at.f t797 t798 t799 a5).bind fun bt803 => (if t802 = 0 then ((curve_Valid.f t797 t798 t799).bind fun t805 => (if t805 = true then (if (bt803.2 != t775) = true then (kimberlitelaw03_CurveConvex.j3 kj101 a3 a4 a5 t774 t775 true a0_0 a0_1 l0_2) else (if bt803.2 = true then (kimberlitelaw03_CurveConvex.j3 kj101 a3 a4 a5 t774 t775 (bt803.1 != (wrap64 (t774 + (wrap64 (a2 * a5))))) a0_0 a0_1 l0_2) else (kimberlitelaw03_CurveConvex.j3 kj101 a3 a4 a5 t774 t775 false a0_0 a0_1 l0_2))) else (kimberlitelaw03_CurveConvex.j3 kj101 a3 a4 a5 t774 t775 true a0_0 a0_1 l0_2))) else (kimberlitelaw03_CurveConvex.j3 kj101 a3 a4 a5 t774 t775 false a0_0 a0_1 l0_2))) = some r := H
             have A134 := Aside0.mk A1340
             clear A1340
             replace H := Option.bind_eq_some_iff.mp H
             obtain ⟨⟨t803, t804⟩, A1350, H⟩ := H
             replace H : (if t802 = 0 then ((curve_Valid.f t797 t798 t799).bind fun t805 => (if t805 = true then (if (t804 != t775) = true then (kimberlitelaw03_CurveConvex.j3 kj101 a3 a4 a5 t774 t775 true a0_0 a0_1 l0_2) else (if t804 = true then (kimberlitelaw03_CurveConvex.j3 kj101 a3 a4 a5 t774 t775 (t803 != (wrap64 (t774 + (wrap64 (a2 * a5))))) a0_0 a0_1 l0_2) else (kimberlitelaw03_CurveConvex.j3 kj101 a3 a4 a5 t774 t775 false a0_0 a0_1 l0_2))) else (kimberlitelaw03_CurveConvex.j3 kj101 a3 a4 a5 t774 t775 true a0_0 a0_1 l0_2))) else (kimberlitelaw03_CurveConvex.j3 kj101 a3 a4 a5 t774 t775 false a0_0 a0_1 l0_2)) = some r := H
             have A135 := Aside0.mk A1350
             clear A1350
             have HC136 := Aside0.mk H
             clear H
             have hnb137 := NB762_763.out
             have hnc137 := NB763_762.out
             have hnb138 := NB762_784.out
             have hnc138 := NB784_762.out
             have hcz139_0 : wc.cell? ⟨gb762, 0, none⟩ = some (.int .i64 a0_0) := (blk_cell BK762.out 0).trans rfl
             have hcz139_1 : wc.cell? ⟨gb762, 1, none⟩ = some (.int .i64 a0_1) := (blk_cell BK762.out 1).trans rfl
             have hcz139_2 : wc.cell? ⟨gb762, 2, none⟩ = some (.slice A0_2 l0_2.length c0_2) := (blk_cell BK762.out 2).trans rfl
             have hfz139_0 := blk_frozen BK762.out 0
             have hfz139_1 := blk_frozen BK762.out 1
             have hfz139_2 := blk_frozen BK762.out 2
             go_upto_region 16 with (first | ((with_reducible refine gate_callee (f := 43) rfl ?_); refine goesL_ (some 130) rfl rfl Try.func43 (by kernel_rfl) rfl #[.agg #[.int .i64 a0_0, .int .i64 a0_1, .slice A0_2 l0_2.length c0_2], .int .i64 a2] rfl (by (try simp only [List.map_toArray, List.map_cons, List.map_nil]); first | done | rfl | (simp only [List.length_drop, List.length_take]; rfl)) ?_; (with_reducible refine (curve_Tilt.calls kj101 a0_0 a0_1 _ _ l0_2 a2 t797 t798 t799 t802 _ ?side1 ?side2 A134.out).mono ?_); (case side1 => repeat (first | exact (Kd.C_below HR0_2.out HB.out) | (with_reducible refine Kd.C_alloc ?_ _) | (with_reducible refine Kd.C_drewN ?_ _) | (with_reducible refine Kd.C_drew ?_))); (case side2 => exact HC0_2.out); rintro e w140 ⟨v800, rfl, ho0, hb⟩; refine ⟨_, rfl, ?_⟩; have n0_ := Aside0.mk (Kd.R_elder' (nR HO_785002) (Kd.R_base ho0) hb); have n1_ := Aside0.mk (Kd.R_lower (Kd.R_new' ho0 (Kd.R_lt (nR HO_785002))) (below_size (nC HB))); have n2_ := Aside0.mk (nB BK762 hb); have n3_ := Aside0.mk (nB BK763 hb); have n4_ := Aside0.mk (nB BK784 hb); have n5_ := Aside0.mk (below_step (nC HB) hb); clear HO_785002; clear BK762; clear BK763; clear BK784; clear HB; have HO_785002 := n0_; have HO801 := n1_; have BK762 := n2_; have BK763 := n3_; have BK784 := n4_; have HB := n5_; clear n0_ n1_ n2_ n3_ n4_ n5_; (try clear hb); (try clear hb2); (try clear hk); (try clear hi); (try clear ho0); have hnb141 := NB784_763.out; have hnc141 := NB763_784.out; have hcz142_0 : w140.cell? ⟨gb784, 0, none⟩ = some (.int .i64 t788) := (blk_cell BK784.out 0).trans rfl; have hcz142_1 : w140.cell? ⟨gb784, 1, none⟩ = some (.int .i64 t789) := (blk_cell BK784.out 1).trans rfl; have hcz142_2 : w140.cell? ⟨gb784, 2, none⟩ = some (.slice Ao109 t790.length co109) := (blk_cell BK784.out 2).trans rfl; have hfz142_0 := blk_frozen BK784.out 0; have hfz142_1 := blk_frozen BK784.out 1; have hfz142_2 := blk_frozen BK784.out 2; obtain ⟨Ao143, co143, eo143⟩ := Kd.R_slice HO801.out; subst eo143) | ((with_reducible refine gate_callee (f := 18) rfl ?_); refine goesL_ (some 136) rfl rfl Try.func18 (by kernel_rfl) rfl #[.agg #[.int .i64 t797, .int .i64 t798, .slice Ao143 t799.length co143], .int .i64 a5] rfl (by (try simp only [List.map_toArray, List.map_cons, List.map_nil]); first | done | rfl | (simp only [List.length_drop, List.length_take]; rfl)) ?_; (with_reducible refine (kimberlitelaw03_at.calls t797 t798 _ _ t799 a5 t803 t804 _ ?side1 ?side2 A135.out).mono ?_); (case side1 => refine (Kd.R_reads' (e := 3) (base := w.heap.size) (ok := fun k_ => (True ∧ some k_ ≠ (.slice Ao109 t790.length co109 : Value).ownBlock)) (n := t799.length) (c := co143) ?_).2.2; exact (by (with_reducible repeat (first | apply Kd.R_alloc | apply Kd.R_drewN | apply Kd.R_drew)); exact (Kd.R_mono (Kd.R_far (p := ⟨gb784, 2, none⟩) (Kd.R_far (p := ⟨gb784, 1, none⟩) (Kd.R_far (p := ⟨gb784, 0, none⟩) (Kd.R_types HO801.out BK784.out (by decide)) (fun _ hk => hk.2) (.int .i64 t797)) (fun _ hk => hk.2) (.int .i64 t798)) (fun _ hk => hk.2) (.slice Ao143 t799.length co143)) (fun _ h_ => h_.1)))); (case side2 => exact (Kd.R_reads' HO801.out).2.1); rintro e w144 ⟨rfl, hb⟩; refine ⟨_, rfl, ?_⟩; have n0_ := Aside0.mk (Kd.R_below (by (with_reducible repeat (first | apply Kd.R_alloc | apply Kd.R_drewN | apply Kd.R_drew)); exact (Kd.R_mono (Kd.R_far (p := ⟨gb784, 2, none⟩) (Kd.R_far (p := ⟨gb784, 1, none⟩) (Kd.R_far (p := ⟨gb784, 0, none⟩) (Kd.R_types HO_785002.out BK784.out (by decide)) (fun _ hk => hk.2) (.int .i64 t797)) (fun _ hk => hk.2) (.int .i64 t798)) (fun _ hk => hk.2) (.slice Ao143 t799.length co143)) (fun _ h_ => h_.1))) hb); have n1_ := Aside0.mk (Kd.R_below (by (with_reducible repeat (first | apply Kd.R_alloc | apply Kd.R_drewN | apply Kd.R_drew)); exact (Kd.R_mono (Kd.R_far (p := ⟨gb784, 2, none⟩) (Kd.R_far (p := ⟨gb784, 1, none⟩) (Kd.R_far (p := ⟨gb784, 0, none⟩) (Kd.R_types HO801.out BK784.out (by decide)) (fun _ hk => hk.2) (.int .i64 t797)) (fun _ hk => hk.2) (.int .i64 t798)) (fun _ hk => hk.2) (.slice Ao143 t799.length co143)) (fun _ h_ => h_.1))) hb); have n2_ := Aside0.mk (blk_below (g := gb762) (o := .cells #[.int .i64 a0_0, .int .i64 a0_1, .slice A0_2 l0_2.length c0_2] 24 (0, 0)) (by (with_reducible repeat (first | refine blk_drewN ?_ _ | refine blk_drew ?_ | refine blk_alloc ?_ _)); refine blk_far ?_ NB762_784.out _; (with_reducible repeat (first | refine blk_drewN ?_ _ | refine blk_drew ?_ | refine blk_alloc ?_ _)); refine blk_far ?_ NB762_784.out _; (with_reducible repeat (first | refine blk_drewN ?_ _ | refine blk_drew ?_ | refine blk_alloc ?_ _)); refine blk_far ?_ NB762_784.out _; (with_reducible repeat (first | refine blk_drewN ?_ _ | refine blk_drew ?_ | refine blk_alloc ?_ _)); exact BK762.out) hb); have n3_ := Aside0.mk (blk_below (g := gb763) (o := .cells #[.int .i64 a1_0, .int .i64 a1_1, .slice A1_2 l1_2.length c1_2] 24 (0, 0)) (by (with_reducible repeat (first | refine blk_drewN ?_ _ | refine blk_drew ?_ | refine blk_alloc ?_ _)); refine blk_far ?_ NB763_784.out _; (with_reducible repeat (first | refine blk_drewN ?_ _ | refine blk_drew ?_ | refine blk_alloc ?_ _)); refine blk_far ?_ NB763_784.out _; (with_reducible repeat (first | refine blk_drewN ?_ _ | refine blk_drew ?_ | refine blk_alloc ?_ _)); refine blk_far ?_ NB763_784.out _; (with_reducible repeat (first | refine blk_drewN ?_ _ | refine blk_drew ?_ | refine blk_alloc ?_ _)); exact BK763.out) hb); have n4_ := Aside0.mk (blk_below (g := gb784) (o := .cells #[.int .i64 t797, .int .i64 t798, .slice Ao143 t799.length co143] 24 (0, 0)) (by (with_reducible repeat (first | refine blk_drewN ?_ _ | refine blk_drew ?_ | refine blk_alloc ?_ _)); refine blk_put (cs := #[.int .i64 t797, .int .i64 t798, .slice Ao109 t790.length co109]) ?_ 2 _ rfl; (with_reducible repeat (first | refine blk_drewN ?_ _ | refine blk_drew ?_ | refine blk_alloc ?_ _)); refine blk_put (cs := #[.int .i64 t797, .int .i64 t789, .slice Ao109 t790.length co109]) ?_ 1 _ rfl; (with_reducible repeat (first | refine blk_drewN ?_ _ | refine blk_drew ?_ | refine blk_alloc ?_ _)); refine blk_put (cs := #[.int .i64 t788, .int .i64 t789, .slice Ao109 t790.length co109]) ?_ 0 _ rfl; (with_reducible repeat (first | refine blk_drewN ?_ _ | refine blk_drew ?_ | refine blk_alloc ?_ _)); exact BK784.out) hb); have n5_ := Aside0.mk (below_step (nC HB) hb); clear HO_785002; clear HO801; clear BK762; clear BK763; clear BK784; clear HB; have HO_785002 := n0_; have HO801 := n1_; have BK762 := n2_; have BK763 := n3_; have BK784 := n4_; have HB := n5_; clear n0_ n1_ n2_ n3_ n4_ n5_; (try clear hb); (try clear hb2); (try clear hk); (try clear hi)))
             (try simp only [Act.put, List.setIfInBounds_toArray, List.set_cons_zero, List.set_cons_succ])
             go_cut [162] (fun v162 wc => ∃ (kq : Nat) (x162_135 : Bool), v162 = .bool x162_135 ∧ Aside0 (kimberlitelaw03_CurveConvex.j3 kq a3 a4 a5 t774 t775 x162_135 a0_0 a0_1 l0_2 = some r) ∧ Aside0 (kq ≤ kj101) ∧ Aside0 (Kd.R (Kd.int .i64) 3 wc w.heap.size (fun _ => True) (.slice Ao143 t799.length co143) t799) ∧ Aside0 (wc.heap[gb762]? = some (.cells #[.int .i64 a0_0, .int .i64 a0_1, (.slice A0_2 l0_2.length c0_2)] 24 (0, 0))) ∧ Aside0 (wc.heap[gb763]? = some (.cells #[.int .i64 a1_0, .int .i64 a1_1, (.slice A1_2 l1_2.length c1_2)] 24 (0, 0))) ∧ Aside0 (wc.heap[gb784]? = some (.cells #[.int .i64 t797, .int .i64 t798, (.slice Ao143 t799.length co143)] 24 (0, 0))) ∧ Aside0 (Below w.heap.size w wc))
             case first =>
              as_aux_lemma =>
              have H := HC136.out
              clear HC136
              by_cases c145 : t802 = 0
              · rw [if_pos c145] at H
                have c145b0 : (t802 == 0) = true := beq_iff_eq.mpr c145
                have c145b1 : (t802 != 0) = false := bne_eq_false_iff_eq.mpr c145
                clear c145
                (first | rw [c145b0] | (simp only [i64_w, i32_w]; rw [c145b0]) | skip)
                replace H := Option.bind_eq_some_iff.mp H
                obtain ⟨t805, A1460, H⟩ := H
                replace H : (if t805 = true then (if (t804 != t775) = true then (kimberlitelaw03_CurveConvex.j3 kj101 a3 a4 a5 t774 t775 true a0_0 a0_1 l0_2) else (if t804 = true then (kimberlitelaw03_CurveConvex.j3 kj101 a3 a4 a5 t774 t775 (t803 != (wrap64 (t774 + (wrap64 (a2 * a5))))) a0_0 a0_1 l0_2) else (kimberlitelaw03_CurveConvex.j3 kj101 a3 a4 a5 t774 t775 false a0_0 a0_1 l0_2))) else (kimberlitelaw03_CurveConvex.j3 kj101 a3 a4 a5 t774 t775 true a0_0 a0_1 l0_2)) = some r := H
                have A146 := Aside0.mk A1460
                clear A1460
                by_cases c147 : t805 = true
                · subst c147
                  have H1 : (if (t804 != t775) = true then (kimberlitelaw03_CurveConvex.j3 kj101 a3 a4 a5 t774 t775 true a0_0 a0_1 l0_2) else (if t804 = true then (kimberlitelaw03_CurveConvex.j3 kj101 a3 a4 a5 t774 t775 (t803 != (wrap64 (t774 + (wrap64 (a2 * a5))))) a0_0 a0_1 l0_2) else (kimberlitelaw03_CurveConvex.j3 kj101 a3 a4 a5 t774 t775 false a0_0 a0_1 l0_2))) = some r := by rw [if_pos rfl] at H; exact H
                  clear H
                  have H := H1
                  clear H1
                  by_cases c148 : (t804 != t775) = true
                  · rw [if_pos c148] at H
                    have c148b0 : (t804 != t775) = true := c148
                    (try (have c148b1 : decide (t804 = t775) = false := by simpa using c148))
                    (try (have c148b2 : (t804 == t775) = false := by simpa using c148))
                    (try (have c148b3 : ¬ (t804 = t775) := by simpa using c148))
                    clear c148
                    have H' := Aside0.mk H
                    clear H
                    have hnb149 := NB784_762.out
                    have hnc149 := NB762_784.out
                    have hnb150 := NB784_763.out
                    have hnc150 := NB763_784.out
                    have hcz151_0 : w144.cell? ⟨gb784, 0, none⟩ = some (.int .i64 t797) := (blk_cell BK784.out 0).trans rfl
                    have hcz151_1 : w144.cell? ⟨gb784, 1, none⟩ = some (.int .i64 t798) := (blk_cell BK784.out 1).trans rfl
                    have hcz151_2 : w144.cell? ⟨gb784, 2, none⟩ = some (.slice Ao143 t799.length co143) := (blk_cell BK784.out 2).trans rfl
                    have hfz151_0 := blk_frozen BK784.out 0
                    have hfz151_1 := blk_frozen BK784.out 1
                    have hfz151_2 := blk_frozen BK784.out 2
                    go_wp2_with (first | (go_at_call 16; (with_reducible refine (curve_Valid.calls t797 t798 _ _ t799 true _ ?side1 ?side2 A146.out).mono ?_); (case side1 => repeat (first | exact (Kd.R_reads' HO801.out).2.2 | (with_reducible refine Kd.C_alloc ?_ _) | (with_reducible refine Kd.C_drewN ?_ _) | (with_reducible refine Kd.C_drew ?_))); (case side2 => exact (Kd.R_reads' HO801.out).2.1); rintro e w152 ⟨rfl, hb⟩; have n0_ := Aside0.mk (Kd.R_below (nR HO_785002) hb); have n1_ := Aside0.mk (Kd.R_below (nR HO801) hb); have n2_ := Aside0.mk (nB BK762 hb); have n3_ := Aside0.mk (nB BK763 hb); have n4_ := Aside0.mk (nB BK784 hb); have n5_ := Aside0.mk (below_step (nC HB) hb); clear HO_785002; clear HO801; clear BK762; clear BK763; clear BK784; clear HB; have HO_785002 := n0_; have HO801 := n1_; have BK762 := n2_; have BK763 := n3_; have BK784 := n4_; have HB := n5_; clear n0_ n1_ n2_ n3_ n4_ n5_; (try clear hb); (try clear hb2); (try clear hk); (try clear hi)))
                    go_meet
                    case rel => exact ⟨_, (true), (by first | rfl | (simp; done) | (simp [*]; done)), H', ⟨by have := HJ6.out; have := HJ47.out; have := HJ101.out; first | omega | exact Nat.le_refl _⟩, ⟨by (with_reducible repeat (first | apply Kd.R_alloc | apply Kd.R_drewN | apply Kd.R_drew)); exact Kd.R_mono HO801.out (fun _ hk => trivial)⟩, ⟨nK BK762⟩, ⟨nK BK763⟩, ⟨nK BK784⟩, ⟨nC HB⟩⟩
                  · rw [if_neg c148] at H
                    have c148b0 : (t804 != t775) = false := by simpa using c148
                    (try (have c148b1 : decide (t804 = t775) = true := by simpa using c148))
                    (try (have c148b2 : (t804 == t775) = true := by simpa using c148))
                    clear c148
                    by_cases c153 : t804 = true
                    · subst c153
                      have H1 : (kimberlitelaw03_CurveConvex.j3 kj101 a3 a4 a5 t774 t775 (t803 != (wrap64 (t774 + (wrap64 (a2 * a5))))) a0_0 a0_1 l0_2) = some r := by rw [if_pos rfl] at H; exact H
                      clear H
                      have H := H1
                      clear H1
                      have H' := Aside0.mk H
                      clear H
                      have hnb154 := NB784_762.out
                      have hnc154 := NB762_784.out
                      have hnb155 := NB784_763.out
                      have hnc155 := NB763_784.out
                      have hcz156_0 : w144.cell? ⟨gb784, 0, none⟩ = some (.int .i64 t797) := (blk_cell BK784.out 0).trans rfl
                      have hcz156_1 : w144.cell? ⟨gb784, 1, none⟩ = some (.int .i64 t798) := (blk_cell BK784.out 1).trans rfl
                      have hcz156_2 : w144.cell? ⟨gb784, 2, none⟩ = some (.slice Ao143 t799.length co143) := (blk_cell BK784.out 2).trans rfl
                      have hfz156_0 := blk_frozen BK784.out 0
                      have hfz156_1 := blk_frozen BK784.out 1
                      have hfz156_2 := blk_frozen BK784.out 2
                      go_wp2_with (first | (go_at_call 16; (with_reducible refine (curve_Valid.calls t797 t798 _ _ t799 true _ ?side1 ?side2 A146.out).mono ?_); (case side1 => repeat (first | exact (Kd.R_reads' HO801.out).2.2 | (with_reducible refine Kd.C_alloc ?_ _) | (with_reducible refine Kd.C_drewN ?_ _) | (with_reducible refine Kd.C_drew ?_))); (case side2 => exact (Kd.R_reads' HO801.out).2.1); rintro e w157 ⟨rfl, hb⟩; have n0_ := Aside0.mk (Kd.R_below (nR HO_785002) hb); have n1_ := Aside0.mk (Kd.R_below (nR HO801) hb); have n2_ := Aside0.mk (nB BK762 hb); have n3_ := Aside0.mk (nB BK763 hb); have n4_ := Aside0.mk (nB BK784 hb); have n5_ := Aside0.mk (below_step (nC HB) hb); clear HO_785002; clear HO801; clear BK762; clear BK763; clear BK784; clear HB; have HO_785002 := n0_; have HO801 := n1_; have BK762 := n2_; have BK763 := n3_; have BK784 := n4_; have HB := n5_; clear n0_ n1_ n2_ n3_ n4_ n5_; (try clear hb); (try clear hb2); (try clear hk); (try clear hi)))
                      go_meet
                      case rel => exact ⟨_, ((t803 != (wrap64 (t774 + (wrap64 (a2 * a5)))))), (by first | rfl | (simp; done) | (simp [*]; done)), H', ⟨by have := HJ6.out; have := HJ47.out; have := HJ101.out; first | omega | exact Nat.le_refl _⟩, ⟨by (with_reducible repeat (first | apply Kd.R_alloc | apply Kd.R_drewN | apply Kd.R_drew)); exact Kd.R_mono HO801.out (fun _ hk => trivial)⟩, ⟨nK BK762⟩, ⟨nK BK763⟩, ⟨nK BK784⟩, ⟨nC HB⟩⟩
                    · replace c153 := Bool.eq_false_iff.mpr c153
                      subst c153
                      have H1 : (kimberlitelaw03_CurveConvex.j3 kj101 a3 a4 a5 t774 t775 false a0_0 a0_1 l0_2) = some r := by rw [if_neg (show ¬ (false = true) by decide)] at H; exact H
                      clear H
                      have H := H1
                      clear H1
                      have H' := Aside0.mk H
                      clear H
                      have hnb158 := NB784_762.out
                      have hnc158 := NB762_784.out
                      have hnb159 := NB784_763.out
                      have hnc159 := NB763_784.out
                      have hcz160_0 : w144.cell? ⟨gb784, 0, none⟩ = some (.int .i64 t797) := (blk_cell BK784.out 0).trans rfl
                      have hcz160_1 : w144.cell? ⟨gb784, 1, none⟩ = some (.int .i64 t798) := (blk_cell BK784.out 1).trans rfl
                      have hcz160_2 : w144.cell? ⟨gb784, 2, none⟩ = some (.slice Ao143 t799.length co143) := (blk_cell BK784.out 2).trans rfl
                      have hfz160_0 := blk_frozen BK784.out 0
                      have hfz160_1 := blk_frozen BK784.out 1
                      have hfz160_2 := blk_frozen BK784.out 2
                      go_wp2_with (first | (go_at_call 16; (with_reducible refine (curve_Valid.calls t797 t798 _ _ t799 true _ ?side1 ?side2 A146.out).mono ?_); (case side1 => repeat (first | exact (Kd.R_reads' HO801.out).2.2 | (with_reducible refine Kd.C_alloc ?_ _) | (with_reducible refine Kd.C_drewN ?_ _) | (with_reducible refine Kd.C_drew ?_))); (case side2 => exact (Kd.R_reads' HO801.out).2.1); rintro e w161 ⟨rfl, hb⟩; have n0_ := Aside0.mk (Kd.R_below (nR HO_785002) hb); have n1_ := Aside0.mk (Kd.R_below (nR HO801) hb); have n2_ := Aside0.mk (nB BK762 hb); have n3_ := Aside0.mk (nB BK763 hb); have n4_ := Aside0.mk (nB BK784 hb); have n5_ := Aside0.mk (below_step (nC HB) hb); clear HO_785002; clear HO801; clear BK762; clear BK763; clear BK784; clear HB; have HO_785002 := n0_; have HO801 := n1_; have BK762 := n2_; have BK763 := n3_; have BK784 := n4_; have HB := n5_; clear n0_ n1_ n2_ n3_ n4_ n5_; (try clear hb); (try clear hb2); (try clear hk); (try clear hi)))
                      go_meet
                      case rel => exact ⟨_, (false), (by first | rfl | (simp; done) | (simp [*]; done)), H', ⟨by have := HJ6.out; have := HJ47.out; have := HJ101.out; first | omega | exact Nat.le_refl _⟩, ⟨by (with_reducible repeat (first | apply Kd.R_alloc | apply Kd.R_drewN | apply Kd.R_drew)); exact Kd.R_mono HO801.out (fun _ hk => trivial)⟩, ⟨nK BK762⟩, ⟨nK BK763⟩, ⟨nK BK784⟩, ⟨nC HB⟩⟩
                · replace c147 := Bool.eq_false_iff.mpr c147
                  subst c147
                  have H1 : (kimberlitelaw03_CurveConvex.j3 kj101 a3 a4 a5 t774 t775 true a0_0 a0_1 l0_2) = some r := by rw [if_neg (show ¬ (false = true) by decide)] at H; exact H
                  clear H
                  have H := H1
                  clear H1
                  have H' := Aside0.mk H
                  clear H
                  have hnb162 := NB784_762.out
                  have hnc162 := NB762_784.out
                  have hnb163 := NB784_763.out
                  have hnc163 := NB763_784.out
                  have hcz164_0 : w144.cell? ⟨gb784, 0, none⟩ = some (.int .i64 t797) := (blk_cell BK784.out 0).trans rfl
                  have hcz164_1 : w144.cell? ⟨gb784, 1, none⟩ = some (.int .i64 t798) := (blk_cell BK784.out 1).trans rfl
                  have hcz164_2 : w144.cell? ⟨gb784, 2, none⟩ = some (.slice Ao143 t799.length co143) := (blk_cell BK784.out 2).trans rfl
                  have hfz164_0 := blk_frozen BK784.out 0
                  have hfz164_1 := blk_frozen BK784.out 1
                  have hfz164_2 := blk_frozen BK784.out 2
                  go_wp2_with (first | (go_at_call 16; (with_reducible refine (curve_Valid.calls t797 t798 _ _ t799 false _ ?side1 ?side2 A146.out).mono ?_); (case side1 => repeat (first | exact (Kd.R_reads' HO801.out).2.2 | (with_reducible refine Kd.C_alloc ?_ _) | (with_reducible refine Kd.C_drewN ?_ _) | (with_reducible refine Kd.C_drew ?_))); (case side2 => exact (Kd.R_reads' HO801.out).2.1); rintro e w165 ⟨rfl, hb⟩; have n0_ := Aside0.mk (Kd.R_below (nR HO_785002) hb); have n1_ := Aside0.mk (Kd.R_below (nR HO801) hb); have n2_ := Aside0.mk (nB BK762 hb); have n3_ := Aside0.mk (nB BK763 hb); have n4_ := Aside0.mk (nB BK784 hb); have n5_ := Aside0.mk (below_step (nC HB) hb); clear HO_785002; clear HO801; clear BK762; clear BK763; clear BK784; clear HB; have HO_785002 := n0_; have HO801 := n1_; have BK762 := n2_; have BK763 := n3_; have BK784 := n4_; have HB := n5_; clear n0_ n1_ n2_ n3_ n4_ n5_; (try clear hb); (try clear hb2); (try clear hk); (try clear hi)))
                  go_meet
                  case rel => exact ⟨_, (true), (by first | rfl | (simp; done) | (simp [*]; done)), H', ⟨by have := HJ6.out; have := HJ47.out; have := HJ101.out; first | omega | exact Nat.le_refl _⟩, ⟨by (with_reducible repeat (first | apply Kd.R_alloc | apply Kd.R_drewN | apply Kd.R_drew)); exact Kd.R_mono HO801.out (fun _ hk => trivial)⟩, ⟨nK BK762⟩, ⟨nK BK763⟩, ⟨nK BK784⟩, ⟨nC HB⟩⟩
              · rw [if_neg c145] at H
                have c145b0 : (t802 == 0) = false := beq_eq_false_iff_ne.mpr c145
                have c145b1 : (t802 != 0) = true := bne_iff_ne.mpr c145
                (first | rw [c145b0] | (simp only [i64_w, i32_w]; rw [c145b0]) | skip)
                have H' := Aside0.mk H
                clear H
                go_wp2
                go_meet
                case rel => exact ⟨_, (false), (by first | rfl | (simp; done) | (simp [*]; done)), H', ⟨by have := HJ6.out; have := HJ47.out; have := HJ101.out; first | omega | exact Nat.le_refl _⟩, ⟨by (with_reducible repeat (first | apply Kd.R_alloc | apply Kd.R_drewN | apply Kd.R_drew)); exact Kd.R_mono HO801.out (fun _ hk => trivial)⟩, ⟨nK BK762⟩, ⟨nK BK763⟩, ⟨nK BK784⟩, ⟨nC HB⟩⟩
             case rest =>
              as_aux_lemma =>
              clear HC136
              try clear c1
              try clear c2
              try clear p2
              try clear c3
              try clear c4
              try clear c5
              try clear c6
              try clear p6
              try clear c7
              try clear c8
              try clear c9
              try clear c10
              try clear c11
              try clear c12
              try clear c13
              try clear c14
              try clear c15
              try clear c16
              try clear c18
              try clear c21
              try clear c23
              try clear c23b0
              try clear c23b1
              try clear c25
              try clear c30
              try clear c31
              try clear c35
              try clear c38
              try clear c40
              try clear c41
              try clear c43
              try clear c49
              try clear c58
              try clear c59
              try clear c63
              try clear c63b0
              try clear c63b1
              try clear p64
              try clear c65
              try clear c66
              try clear c67
              try clear c67b0
              try clear c67b1
              try clear c67b2
              try clear c68
              try clear c69
              try clear c72
              try clear c73
              try clear c74
              try clear c77
              try clear c78
              try clear c81
              try clear c81b0
              try clear c81b1
              try clear c81b2
              try clear c82
              try clear c83
              try clear c86
              try clear c87
              try clear c88
              try clear c91
              try clear c92
              try clear c95
              try clear c96
              try clear c99
              try clear c103
              try clear c104
              try clear c107
              try clear c111
              try clear c111b0
              try clear c111b1
              try clear c112
              try clear c112b0
              try clear c114
              try clear c115
              try clear c115b0
              try clear c115b1
              try clear c115b2
              try clear c116
              try clear c117
              try clear c120
              try clear c121
              try clear c122
              try clear c125
              try clear c126
              try clear c129
              try clear c130
              try clear c133
              try clear c137
              try clear c138
              try clear c141
              try clear c145
              try clear c145b0
              try clear c145b1
              try clear c147
              try clear c148
              try clear c148b0
              try clear c148b1
              try clear c148b2
              try clear c149
              try clear c150
              try clear c153
              try clear c154
              try clear c155
              try clear c158
              try clear c159
              try clear c162
              try clear c163
              try clear hcz105_0
              try clear hcz105_1
              try clear hcz105_2
              try clear hcz108_0
              try clear hcz108_1
              try clear hcz108_2
              try clear hcz118_0
              try clear hcz118_1
              try clear hcz118_2
              try clear hcz123_0
              try clear hcz123_1
              try clear hcz123_2
              try clear hcz127_0
              try clear hcz127_1
              try clear hcz127_2
              try clear hcz131_0
              try clear hcz131_1
              try clear hcz131_2
              try clear hcz139_0
              try clear hcz139_1
              try clear hcz139_2
              try clear hcz142_0
              try clear hcz142_1
              try clear hcz142_2
              try clear hcz14_0
              try clear hcz14_1
              try clear hcz14_2
              try clear hcz151_0
              try clear hcz151_1
              try clear hcz151_2
              try clear hcz156_0
              try clear hcz156_1
              try clear hcz156_2
              try clear hcz160_0
              try clear hcz160_1
              try clear hcz160_2
              try clear hcz164_0
              try clear hcz164_1
              try clear hcz164_2
              try clear hcz16_0
              try clear hcz16_1
              try clear hcz16_2
              try clear hcz19_0
              try clear hcz19_1
              try clear hcz19_2
              try clear hcz26_0
              try clear hcz26_1
              try clear hcz26_2
              try clear hcz27_0
              try clear hcz27_1
              try clear hcz27_2
              try clear hcz32_0
              try clear hcz32_1
              try clear hcz32_2
              try clear hcz36_0
              try clear hcz36_1
              try clear hcz36_2
              try clear hcz37_0
              try clear hcz37_1
              try clear hcz37_2
              try clear hcz42_0
              try clear hcz42_1
              try clear hcz42_2
              try clear hcz50_0
              try clear hcz50_1
              try clear hcz50_2
              try clear hcz52_0
              try clear hcz52_1
              try clear hcz52_2
              try clear hcz54_0
              try clear hcz54_1
              try clear hcz54_2
              try clear hcz55_0
              try clear hcz55_1
              try clear hcz55_2
              try clear hcz60_0
              try clear hcz60_1
              try clear hcz60_2
              try clear hcz70_0
              try clear hcz70_1
              try clear hcz70_2
              try clear hcz75_0
              try clear hcz75_1
              try clear hcz75_2
              try clear hcz79_0
              try clear hcz79_1
              try clear hcz79_2
              try clear hcz84_0
              try clear hcz84_1
              try clear hcz84_2
              try clear hcz89_0
              try clear hcz89_1
              try clear hcz89_2
              try clear hcz93_0
              try clear hcz93_1
              try clear hcz93_2
              try clear hcz97_0
              try clear hcz97_1
              try clear hcz97_2
              try clear hfz105_0
              try clear hfz105_1
              try clear hfz105_2
              try clear hfz108_0
              try clear hfz108_1
              try clear hfz108_2
              try clear hfz118_0
              try clear hfz118_1
              try clear hfz118_2
              try clear hfz123_0
              try clear hfz123_1
              try clear hfz123_2
              try clear hfz127_0
              try clear hfz127_1
              try clear hfz127_2
              try clear hfz131_0
              try clear hfz131_1
              try clear hfz131_2
              try clear hfz139_0
              try clear hfz139_1
              try clear hfz139_2
              try clear hfz142_0
              try clear hfz142_1
              try clear hfz142_2
              try clear hfz14_0
              try clear hfz14_1
              try clear hfz14_2
              try clear hfz151_0
              try clear hfz151_1
              try clear hfz151_2
              try clear hfz156_0
              try clear hfz156_1
              try clear hfz156_2
              try clear hfz160_0
              try clear hfz160_1
              try clear hfz160_2
              try clear hfz164_0
              try clear hfz164_1
              try clear hfz164_2
              try clear hfz16_0
              try clear hfz16_1
              try clear hfz16_2
              try clear hfz19_0
              try clear hfz19_1
              try clear hfz19_2
              try clear hfz26_0
              try clear hfz26_1
              try clear hfz26_2
              try clear hfz27_0
              try clear hfz27_1
              try clear hfz27_2
              try clear hfz32_0
              try clear hfz32_1
              try clear hfz32_2
              try clear hfz36_0
              try clear hfz36_1
              try clear hfz36_2
              try clear hfz37_0
              try clear hfz37_1
              try clear hfz37_2
              try clear hfz42_0
              try clear hfz42_1
              try clear hfz42_2
              try clear hfz50_0
              try clear hfz50_1
              try clear hfz50_2
              try clear hfz52_0
              try clear hfz52_1
              try clear hfz52_2
              try clear hfz54_0
              try clear hfz54_1
              try clear hfz54_2
              try clear hfz55_0
              try clear hfz55_1
              try clear hfz55_2
              try clear hfz60_0
              try clear hfz60_1
              try clear hfz60_2
              try clear hfz70_0
              try clear hfz70_1
              try clear hfz70_2
              try clear hfz75_0
              try clear hfz75_1
              try clear hfz75_2
              try clear hfz79_0
              try clear hfz79_1
              try clear hfz79_2
              try clear hfz84_0
              try clear hfz84_1
              try clear hfz84_2
              try clear hfz89_0
              try clear hfz89_1
              try clear hfz89_2
              try clear hfz93_0
              try clear hfz93_1
              try clear hfz93_2
              try clear hfz97_0
              try clear hfz97_1
              try clear hfz97_2
              try clear p2
              try clear p6
              try clear p64
              obtain ⟨kq, x162_135, rfl, HA, HJ135, HO_785002, BK762, BK763, BK784, HB⟩ := hcut
              cases kq with
              | zero => exact absurd HA.out (by simp [kimberlitelaw03_CurveConvex.j3])
              | succ kj135 =>
               have H := HA.out
               clear HA
               simp only [kimberlitelaw03_CurveConvex.j3] at H
               by_cases c166 : x162_135 = true
               · subst c166
                 have H1 : (some false) = some r := by rw [if_pos rfl] at H; exact H
                 clear H
                 have H := H1
                 clear H1
                 obtain rfl := Option.some.inj H
                 go_wp2
                 go_ret
                 exact ⟨by first | rfl | (simp [errW_none, errW_some] <;> rfl) | (simp [*, errW_none, errW_some] <;> rfl), nC HB⟩
               · replace c166 := Bool.eq_false_iff.mpr c166
                 subst c166
                 have H1 : ((curve_Move.f kj135 a0_0 a0_1 l0_2 a3 a4).bind fun bt806 => (if bt806.2.2.2 = 0 then (if a5 > (-1099511627776) then (kimberlitelaw03_CurveConvex.j4 kj135 a3 a4 a5 t774 t775 (decide (a5 < 1099511627776)) a0_0 a0_1 l0_2 bt806.1 bt806.2.1 bt806.2.2.1) else (kimberlitelaw03_CurveConvex.j4 kj135 a3 a4 a5 t774 t775 false a0_0 a0_1 l0_2 bt806.1 bt806.2.1 bt806.2.2.1)) else (kimberlitelaw03_CurveConvex.j4 kj135 a3 a4 a5 t774 t775 false a0_0 a0_1 l0_2 bt806.1 bt806.2.1 bt806.2.2.1))) = some r := by rw [if_neg (show ¬ (false = true) by decide)] at H; exact H
                 clear H
                 have H := H1
                 clear H1
                 replace H := Option.bind_eq_some_iff.mp H
                 obtain ⟨⟨t806, t807, t808, t811⟩, A1670, H⟩ := H
                 replace H : (if t811 = 0 then (if a5 > (-1099511627776) then (kimberlitelaw03_CurveConvex.j4 kj135 a3 a4 a5 t774 t775 (decide (a5 < 1099511627776)) a0_0 a0_1 l0_2 t806 t807 t808) else (kimberlitelaw03_CurveConvex.j4 kj135 a3 a4 a5 t774 t775 false a0_0 a0_1 l0_2 t806 t807 t808)) else (kimberlitelaw03_CurveConvex.j4 kj135 a3 a4 a5 t774 t775 false a0_0 a0_1 l0_2 t806 t807 t808)) = some r := H
                 have A167 := Aside0.mk A1670
                 clear A1670
                 have HC168 := Aside0.mk H
                 clear H
                 have hnb169 := NB762_763.out
                 have hnc169 := NB763_762.out
                 have hnb170 := NB762_784.out
                 have hnc170 := NB784_762.out
                 have hcz171_0 : wc.cell? ⟨gb762, 0, none⟩ = some (.int .i64 a0_0) := (blk_cell BK762.out 0).trans rfl
                 have hcz171_1 : wc.cell? ⟨gb762, 1, none⟩ = some (.int .i64 a0_1) := (blk_cell BK762.out 1).trans rfl
                 have hcz171_2 : wc.cell? ⟨gb762, 2, none⟩ = some (.slice A0_2 l0_2.length c0_2) := (blk_cell BK762.out 2).trans rfl
                 have hfz171_0 := blk_frozen BK762.out 0
                 have hfz171_1 := blk_frozen BK762.out 1
                 have hfz171_2 := blk_frozen BK762.out 2
                 go_upto_region 19 with (first | ((with_reducible refine gate_callee (f := 45) rfl ?_); refine goesL_ (some 167) rfl rfl Try.func45 (by kernel_rfl) rfl #[.agg #[.int .i64 a0_0, .int .i64 a0_1, .slice A0_2 l0_2.length c0_2], .int .i64 a3, .int .i64 a4] rfl (by (try simp only [List.map_toArray, List.map_cons, List.map_nil]); first | done | rfl | (simp only [List.length_drop, List.length_take]; rfl)) ?_; (with_reducible refine (curve_Move.calls kj135 a0_0 a0_1 _ _ l0_2 a3 a4 t806 t807 t808 t811 _ ?side1 ?side2 A167.out).mono ?_); (case side1 => repeat (first | exact (Kd.C_below HR0_2.out HB.out) | (with_reducible refine Kd.C_alloc ?_ _) | (with_reducible refine Kd.C_drewN ?_ _) | (with_reducible refine Kd.C_drew ?_))); (case side2 => exact HC0_2.out); rintro e w172 ⟨v809, rfl, ho0, hb⟩; refine ⟨_, rfl, ?_⟩; have n0_ := Aside0.mk (Kd.R_elder' (nR HO_785002) (Kd.R_base ho0) hb); have n1_ := Aside0.mk (Kd.R_lower (Kd.R_new' ho0 (Kd.R_lt (nR HO_785002))) (below_size (nC HB))); have n2_ := Aside0.mk (nB BK762 hb); have n3_ := Aside0.mk (nB BK763 hb); have n4_ := Aside0.mk (nB BK784 hb); have n5_ := Aside0.mk (below_step (nC HB) hb); clear HO_785002; clear BK762; clear BK763; clear BK784; clear HB; have HO_785002 := n0_; have HO810 := n1_; have BK762 := n2_; have BK763 := n3_; have BK784 := n4_; have HB := n5_; clear n0_ n1_ n2_ n3_ n4_ n5_; (try clear hb); (try clear hb2); (try clear hk); (try clear hi); (try clear ho0); have hnb173 := NB784_763.out; have hnc173 := NB763_784.out; have hcz174_0 : w172.cell? ⟨gb784, 0, none⟩ = some (.int .i64 t797) := (blk_cell BK784.out 0).trans rfl; have hcz174_1 : w172.cell? ⟨gb784, 1, none⟩ = some (.int .i64 t798) := (blk_cell BK784.out 1).trans rfl; have hcz174_2 : w172.cell? ⟨gb784, 2, none⟩ = some (.slice Ao143 t799.length co143) := (blk_cell BK784.out 2).trans rfl; have hfz174_0 := blk_frozen BK784.out 0; have hfz174_1 := blk_frozen BK784.out 1; have hfz174_2 := blk_frozen BK784.out 2; obtain ⟨Ao175, co175, eo175⟩ := Kd.R_slice HO810.out; subst eo175))
                 (try simp only [Act.put, List.setIfInBounds_toArray, List.set_cons_zero, List.set_cons_succ])
                 go_cut [179] (fun v179 wc => ∃ (kq : Nat) (x179_167 : Bool), v179 = .bool x179_167 ∧ Aside0 (kimberlitelaw03_CurveConvex.j4 kq a3 a4 a5 t774 t775 x179_167 a0_0 a0_1 l0_2 t806 t807 t808 = some r) ∧ Aside0 (kq ≤ kj135) ∧ Aside0 (Kd.R (Kd.int .i64) 3 wc w.heap.size (fun _ => True) (.slice Ao175 t808.length co175) t808) ∧ Aside0 (wc.heap[gb762]? = some (.cells #[.int .i64 a0_0, .int .i64 a0_1, (.slice A0_2 l0_2.length c0_2)] 24 (0, 0))) ∧ Aside0 (wc.heap[gb763]? = some (.cells #[.int .i64 a1_0, .int .i64 a1_1, (.slice A1_2 l1_2.length c1_2)] 24 (0, 0))) ∧ Aside0 (wc.heap[gb784]? = some (.cells #[.int .i64 t806, .int .i64 t807, (.slice Ao175 t808.length co175)] 24 (0, 0))) ∧ Aside0 (Below w.heap.size w wc))
                 case first =>
                  as_aux_lemma =>
                  have H := HC168.out
                  clear HC168
                  by_cases c176 : t811 = 0
                  · rw [if_pos c176] at H
                    have c176b0 : (t811 == 0) = true := beq_iff_eq.mpr c176
                    have c176b1 : (t811 != 0) = false := bne_eq_false_iff_eq.mpr c176
                    clear c176
                    (first | rw [c176b0] | (simp only [i64_w, i32_w]; rw [c176b0]) | skip)
                    by_cases c177 : a5 > (-1099511627776)
                    · rw [if_pos c177] at H
                      have c177b0 : decide ((-1099511627776) < a5) = true := decide_eq_true c177
                      clear c177
                      have H' := Aside0.mk H
                      clear H
                      go_wp2
                      go_meet
                      case rel => exact ⟨_, (decide (a5 < 1099511627776)), (by first | rfl | (simp; done) | (simp [*]; done)), H', ⟨by have := HJ6.out; have := HJ47.out; have := HJ101.out; have := HJ135.out; first | omega | exact Nat.le_refl _⟩, ⟨by (with_reducible repeat (first | apply Kd.R_alloc | apply Kd.R_drewN | apply Kd.R_drew)); exact Kd.R_mono (Kd.R_far (p := ⟨gb784, 2, none⟩) (Kd.R_far (p := ⟨gb784, 1, none⟩) (Kd.R_far (p := ⟨gb784, 0, none⟩) (Kd.R_types HO810.out BK784.out (by decide)) (fun _ hk => hk.2) (.int .i64 t806)) (fun _ hk => hk.2) (.int .i64 t807)) (fun _ hk => hk.2) (.slice Ao175 t808.length co175)) (fun _ hk => trivial)⟩, ⟨by (with_reducible repeat (first | refine blk_drewN ?_ _ | refine blk_drew ?_ | refine blk_alloc ?_ _)); refine blk_far ?_ NB762_784.out _; (with_reducible repeat (first | refine blk_drewN ?_ _ | refine blk_drew ?_ | refine blk_alloc ?_ _)); refine blk_far ?_ NB762_784.out _; (with_reducible repeat (first | refine blk_drewN ?_ _ | refine blk_drew ?_ | refine blk_alloc ?_ _)); refine blk_far ?_ NB762_784.out _; (with_reducible repeat (first | refine blk_drewN ?_ _ | refine blk_drew ?_ | refine blk_alloc ?_ _)); exact BK762.out⟩, ⟨by (with_reducible repeat (first | refine blk_drewN ?_ _ | refine blk_drew ?_ | refine blk_alloc ?_ _)); refine blk_far ?_ NB763_784.out _; (with_reducible repeat (first | refine blk_drewN ?_ _ | refine blk_drew ?_ | refine blk_alloc ?_ _)); refine blk_far ?_ NB763_784.out _; (with_reducible repeat (first | refine blk_drewN ?_ _ | refine blk_drew ?_ | refine blk_alloc ?_ _)); refine blk_far ?_ NB763_784.out _; (with_reducible repeat (first | refine blk_drewN ?_ _ | refine blk_drew ?_ | refine blk_alloc ?_ _)); exact BK763.out⟩, ⟨by (with_reducible repeat (first | refine blk_drewN ?_ _ | refine blk_drew ?_ | refine blk_alloc ?_ _)); refine blk_put (cs := #[.int .i64 t806, .int .i64 t807, .slice Ao143 t799.length co143]) ?_ 2 _ rfl; (with_reducible repeat (first | refine blk_drewN ?_ _ | refine blk_drew ?_ | refine blk_alloc ?_ _)); refine blk_put (cs := #[.int .i64 t806, .int .i64 t798, .slice Ao143 t799.length co143]) ?_ 1 _ rfl; (with_reducible repeat (first | refine blk_drewN ?_ _ | refine blk_drew ?_ | refine blk_alloc ?_ _)); refine blk_put (cs := #[.int .i64 t797, .int .i64 t798, .slice Ao143 t799.length co143]) ?_ 0 _ rfl; (with_reducible repeat (first | refine blk_drewN ?_ _ | refine blk_drew ?_ | refine blk_alloc ?_ _)); exact BK784.out⟩, ⟨nC HB⟩⟩
                    · rw [if_neg c177] at H
                      have c177b0 : decide ((-1099511627776) < a5) = false := decide_eq_false c177
                      clear c177
                      have H' := Aside0.mk H
                      clear H
                      go_wp2
                      go_meet
                      case rel => exact ⟨_, (false), (by first | rfl | (simp; done) | (simp [*]; done)), H', ⟨by have := HJ6.out; have := HJ47.out; have := HJ101.out; have := HJ135.out; first | omega | exact Nat.le_refl _⟩, ⟨by (with_reducible repeat (first | apply Kd.R_alloc | apply Kd.R_drewN | apply Kd.R_drew)); exact Kd.R_mono (Kd.R_far (p := ⟨gb784, 2, none⟩) (Kd.R_far (p := ⟨gb784, 1, none⟩) (Kd.R_far (p := ⟨gb784, 0, none⟩) (Kd.R_types HO810.out BK784.out (by decide)) (fun _ hk => hk.2) (.int .i64 t806)) (fun _ hk => hk.2) (.int .i64 t807)) (fun _ hk => hk.2) (.slice Ao175 t808.length co175)) (fun _ hk => trivial)⟩, ⟨by (with_reducible repeat (first | refine blk_drewN ?_ _ | refine blk_drew ?_ | refine blk_alloc ?_ _)); refine blk_far ?_ NB762_784.out _; (with_reducible repeat (first | refine blk_drewN ?_ _ | refine blk_drew ?_ | refine blk_alloc ?_ _)); refine blk_far ?_ NB762_784.out _; (with_reducible repeat (first | refine blk_drewN ?_ _ | refine blk_drew ?_ | refine blk_alloc ?_ _)); refine blk_far ?_ NB762_784.out _; (with_reducible repeat (first | refine blk_drewN ?_ _ | refine blk_drew ?_ | refine blk_alloc ?_ _)); exact BK762.out⟩, ⟨by (with_reducible repeat (first | refine blk_drewN ?_ _ | refine blk_drew ?_ | refine blk_alloc ?_ _)); refine blk_far ?_ NB763_784.out _; (with_reducible repeat (first | refine blk_drewN ?_ _ | refine blk_drew ?_ | refine blk_alloc ?_ _)); refine blk_far ?_ NB763_784.out _; (with_reducible repeat (first | refine blk_drewN ?_ _ | refine blk_drew ?_ | refine blk_alloc ?_ _)); refine blk_far ?_ NB763_784.out _; (with_reducible repeat (first | refine blk_drewN ?_ _ | refine blk_drew ?_ | refine blk_alloc ?_ _)); exact BK763.out⟩, ⟨by (with_reducible repeat (first | refine blk_drewN ?_ _ | refine blk_drew ?_ | refine blk_alloc ?_ _)); refine blk_put (cs := #[.int .i64 t806, .int .i64 t807, .slice Ao143 t799.length co143]) ?_ 2 _ rfl; (with_reducible repeat (first | refine blk_drewN ?_ _ | refine blk_drew ?_ | refine blk_alloc ?_ _)); refine blk_put (cs := #[.int .i64 t806, .int .i64 t798, .slice Ao143 t799.length co143]) ?_ 1 _ rfl; (with_reducible repeat (first | refine blk_drewN ?_ _ | refine blk_drew ?_ | refine blk_alloc ?_ _)); refine blk_put (cs := #[.int .i64 t797, .int .i64 t798, .slice Ao143 t799.length co143]) ?_ 0 _ rfl; (with_reducible repeat (first | refine blk_drewN ?_ _ | refine blk_drew ?_ | refine blk_alloc ?_ _)); exact BK784.out⟩, ⟨nC HB⟩⟩
                  · rw [if_neg c176] at H
                    have c176b0 : (t811 == 0) = false := beq_eq_false_iff_ne.mpr c176
                    have c176b1 : (t811 != 0) = true := bne_iff_ne.mpr c176
                    (first | rw [c176b0] | (simp only [i64_w, i32_w]; rw [c176b0]) | skip)
                    have H' := Aside0.mk H
                    clear H
                    go_wp2
                    go_meet
                    case rel => exact ⟨_, (false), (by first | rfl | (simp; done) | (simp [*]; done)), H', ⟨by have := HJ6.out; have := HJ47.out; have := HJ101.out; have := HJ135.out; first | omega | exact Nat.le_refl _⟩, ⟨by (with_reducible repeat (first | apply Kd.R_alloc | apply Kd.R_drewN | apply Kd.R_drew)); exact Kd.R_mono (Kd.R_far (p := ⟨gb784, 2, none⟩) (Kd.R_far (p := ⟨gb784, 1, none⟩) (Kd.R_far (p := ⟨gb784, 0, none⟩) (Kd.R_types HO810.out BK784.out (by decide)) (fun _ hk => hk.2) (.int .i64 t806)) (fun _ hk => hk.2) (.int .i64 t807)) (fun _ hk => hk.2) (.slice Ao175 t808.length co175)) (fun _ hk => trivial)⟩, ⟨by (with_reducible repeat (first | refine blk_drewN ?_ _ | refine blk_drew ?_ | refine blk_alloc ?_ _)); refine blk_far ?_ NB762_784.out _; (with_reducible repeat (first | refine blk_drewN ?_ _ | refine blk_drew ?_ | refine blk_alloc ?_ _)); refine blk_far ?_ NB762_784.out _; (with_reducible repeat (first | refine blk_drewN ?_ _ | refine blk_drew ?_ | refine blk_alloc ?_ _)); refine blk_far ?_ NB762_784.out _; (with_reducible repeat (first | refine blk_drewN ?_ _ | refine blk_drew ?_ | refine blk_alloc ?_ _)); exact BK762.out⟩, ⟨by (with_reducible repeat (first | refine blk_drewN ?_ _ | refine blk_drew ?_ | refine blk_alloc ?_ _)); refine blk_far ?_ NB763_784.out _; (with_reducible repeat (first | refine blk_drewN ?_ _ | refine blk_drew ?_ | refine blk_alloc ?_ _)); refine blk_far ?_ NB763_784.out _; (with_reducible repeat (first | refine blk_drewN ?_ _ | refine blk_drew ?_ | refine blk_alloc ?_ _)); refine blk_far ?_ NB763_784.out _; (with_reducible repeat (first | refine blk_drewN ?_ _ | refine blk_drew ?_ | refine blk_alloc ?_ _)); exact BK763.out⟩, ⟨by (with_reducible repeat (first | refine blk_drewN ?_ _ | refine blk_drew ?_ | refine blk_alloc ?_ _)); refine blk_put (cs := #[.int .i64 t806, .int .i64 t807, .slice Ao143 t799.length co143]) ?_ 2 _ rfl; (with_reducible repeat (first | refine blk_drewN ?_ _ | refine blk_drew ?_ | refine blk_alloc ?_ _)); refine blk_put (cs := #[.int .i64 t806, .int .i64 t798, .slice Ao143 t799.length co143]) ?_ 1 _ rfl; (with_reducible repeat (first | refine blk_drewN ?_ _ | refine blk_drew ?_ | refine blk_alloc ?_ _)); refine blk_put (cs := #[.int .i64 t797, .int .i64 t798, .slice Ao143 t799.length co143]) ?_ 0 _ rfl; (with_reducible repeat (first | refine blk_drewN ?_ _ | refine blk_drew ?_ | refine blk_alloc ?_ _)); exact BK784.out⟩, ⟨nC HB⟩⟩
                 case rest =>
                  as_aux_lemma =>
                  clear HC168
                  try clear c1
                  try clear c2
                  try clear p2
                  try clear c3
                  try clear c4
                  try clear c5
                  try clear c6
                  try clear p6
                  try clear c7
                  try clear c8
                  try clear c9
                  try clear c10
                  try clear c11
                  try clear c12
                  try clear c13
                  try clear c14
                  try clear c15
                  try clear c16
                  try clear c17
                  try clear c18
                  try clear c21
                  try clear c23
                  try clear c23b0
                  try clear c23b1
                  try clear c25
                  try clear c30
                  try clear c31
                  try clear c35
                  try clear c38
                  try clear c40
                  try clear c41
                  try clear c43
                  try clear c45
                  try clear c49
                  try clear c58
                  try clear c59
                  try clear c63
                  try clear c63b0
                  try clear c63b1
                  try clear p64
                  try clear c65
                  try clear c66
                  try clear c67
                  try clear c67b0
                  try clear c67b1
                  try clear c67b2
                  try clear c68
                  try clear c69
                  try clear c72
                  try clear c73
                  try clear c74
                  try clear c77
                  try clear c78
                  try clear c81
                  try clear c81b0
                  try clear c81b1
                  try clear c81b2
                  try clear c82
                  try clear c83
                  try clear c86
                  try clear c87
                  try clear c88
                  try clear c91
                  try clear c92
                  try clear c95
                  try clear c96
                  try clear c99
                  try clear c103
                  try clear c104
                  try clear c107
                  try clear c111
                  try clear c111b0
                  try clear c111b1
                  try clear c112
                  try clear c112b0
                  try clear c114
                  try clear c115
                  try clear c115b0
                  try clear c115b1
                  try clear c115b2
                  try clear c116
                  try clear c117
                  try clear c120
                  try clear c121
                  try clear c122
                  try clear c125
                  try clear c126
                  try clear c129
                  try clear c130
                  try clear c133
                  try clear c137
                  try clear c138
                  try clear c141
                  try clear c145
                  try clear c145b0
                  try clear c145b1
                  try clear c147
                  try clear c148
                  try clear c148b0
                  try clear c148b1
                  try clear c148b2
                  try clear c149
                  try clear c150
                  try clear c153
                  try clear c154
                  try clear c155
                  try clear c158
                  try clear c159
                  try clear c162
                  try clear c163
                  try clear c166
                  try clear c169
                  try clear c170
                  try clear c173
                  try clear c176
                  try clear c176b0
                  try clear c176b1
                  try clear c177
                  try clear c177b0
                  try clear hcz105_0
                  try clear hcz105_1
                  try clear hcz105_2
                  try clear hcz108_0
                  try clear hcz108_1
                  try clear hcz108_2
                  try clear hcz118_0
                  try clear hcz118_1
                  try clear hcz118_2
                  try clear hcz123_0
                  try clear hcz123_1
                  try clear hcz123_2
                  try clear hcz127_0
                  try clear hcz127_1
                  try clear hcz127_2
                  try clear hcz131_0
                  try clear hcz131_1
                  try clear hcz131_2
                  try clear hcz139_0
                  try clear hcz139_1
                  try clear hcz139_2
                  try clear hcz142_0
                  try clear hcz142_1
                  try clear hcz142_2
                  try clear hcz14_0
                  try clear hcz14_1
                  try clear hcz14_2
                  try clear hcz151_0
                  try clear hcz151_1
                  try clear hcz151_2
                  try clear hcz156_0
                  try clear hcz156_1
                  try clear hcz156_2
                  try clear hcz160_0
                  try clear hcz160_1
                  try clear hcz160_2
                  try clear hcz164_0
                  try clear hcz164_1
                  try clear hcz164_2
                  try clear hcz16_0
                  try clear hcz16_1
                  try clear hcz16_2
                  try clear hcz171_0
                  try clear hcz171_1
                  try clear hcz171_2
                  try clear hcz174_0
                  try clear hcz174_1
                  try clear hcz174_2
                  try clear hcz19_0
                  try clear hcz19_1
                  try clear hcz19_2
                  try clear hcz26_0
                  try clear hcz26_1
                  try clear hcz26_2
                  try clear hcz27_0
                  try clear hcz27_1
                  try clear hcz27_2
                  try clear hcz32_0
                  try clear hcz32_1
                  try clear hcz32_2
                  try clear hcz36_0
                  try clear hcz36_1
                  try clear hcz36_2
                  try clear hcz37_0
                  try clear hcz37_1
                  try clear hcz37_2
                  try clear hcz42_0
                  try clear hcz42_1
                  try clear hcz42_2
                  try clear hcz50_0
                  try clear hcz50_1
                  try clear hcz50_2
                  try clear hcz52_0
                  try clear hcz52_1
                  try clear hcz52_2
                  try clear hcz54_0
                  try clear hcz54_1
                  try clear hcz54_2
                  try clear hcz55_0
                  try clear hcz55_1
                  try clear hcz55_2
                  try clear hcz60_0
                  try clear hcz60_1
                  try clear hcz60_2
                  try clear hcz70_0
                  try clear hcz70_1
                  try clear hcz70_2
                  try clear hcz75_0
                  try clear hcz75_1
                  try clear hcz75_2
                  try clear hcz79_0
                  try clear hcz79_1
                  try clear hcz79_2
                  try clear hcz84_0
                  try clear hcz84_1
                  try clear hcz84_2
                  try clear hcz89_0
                  try clear hcz89_1
                  try clear hcz89_2
                  try clear hcz93_0
                  try clear hcz93_1
                  try clear hcz93_2
                  try clear hcz97_0
                  try clear hcz97_1
                  try clear hcz97_2
                  try clear hfz105_0
                  try clear hfz105_1
                  try clear hfz105_2
                  try clear hfz108_0
                  try clear hfz108_1
                  try clear hfz108_2
                  try clear hfz118_0
                  try clear hfz118_1
                  try clear hfz118_2
                  try clear hfz123_0
                  try clear hfz123_1
                  try clear hfz123_2
                  try clear hfz127_0
                  try clear hfz127_1
                  try clear hfz127_2
                  try clear hfz131_0
                  try clear hfz131_1
                  try clear hfz131_2
                  try clear hfz139_0
                  try clear hfz139_1
                  try clear hfz139_2
                  try clear hfz142_0
                  try clear hfz142_1
                  try clear hfz142_2
                  try clear hfz14_0
                  try clear hfz14_1
                  try clear hfz14_2
                  try clear hfz151_0
                  try clear hfz151_1
                  try clear hfz151_2
                  try clear hfz156_0
                  try clear hfz156_1
                  try clear hfz156_2
                  try clear hfz160_0
                  try clear hfz160_1
                  try clear hfz160_2
                  try clear hfz164_0
                  try clear hfz164_1
                  try clear hfz164_2
                  try clear hfz16_0
                  try clear hfz16_1
                  try clear hfz16_2
                  try clear hfz171_0
                  try clear hfz171_1
                  try clear hfz171_2
                  try clear hfz174_0
                  try clear hfz174_1
                  try clear hfz174_2
                  try clear hfz19_0
                  try clear hfz19_1
                  try clear hfz19_2
                  try clear hfz26_0
                  try clear hfz26_1
                  try clear hfz26_2
                  try clear hfz27_0
                  try clear hfz27_1
                  try clear hfz27_2
                  try clear hfz32_0
                  try clear hfz32_1
                  try clear hfz32_2
                  try clear hfz36_0
                  try clear hfz36_1
                  try clear hfz36_2
                  try clear hfz37_0
                  try clear hfz37_1
                  try clear hfz37_2
                  try clear hfz42_0
                  try clear hfz42_1
                  try clear hfz42_2
                  try clear hfz50_0
                  try clear hfz50_1
                  try clear hfz50_2
                  try clear hfz52_0
                  try clear hfz52_1
                  try clear hfz52_2
                  try clear hfz54_0
                  try clear hfz54_1
                  try clear hfz54_2
                  try clear hfz55_0
                  try clear hfz55_1
                  try clear hfz55_2
                  try clear hfz60_0
                  try clear hfz60_1
                  try clear hfz60_2
                  try clear hfz70_0
                  try clear hfz70_1
                  try clear hfz70_2
                  try clear hfz75_0
                  try clear hfz75_1
                  try clear hfz75_2
                  try clear hfz79_0
                  try clear hfz79_1
                  try clear hfz79_2
                  try clear hfz84_0
                  try clear hfz84_1
                  try clear hfz84_2
                  try clear hfz89_0
                  try clear hfz89_1
                  try clear hfz89_2
                  try clear hfz93_0
                  try clear hfz93_1
                  try clear hfz93_2
                  try clear hfz97_0
                  try clear hfz97_1
                  try clear hfz97_2
                  try clear p2
                  try clear p6
                  try clear p64
                  obtain ⟨kq, x179_167, rfl, HA, HJ167, HO_785002, BK762, BK763, BK784, HB⟩ := hcut
                  cases kq with
                  | zero => exact absurd HA.out (by simp [kimberlitelaw03_CurveConvex.j4])
                  | succ kj167 =>
                   have H := HA.out
                   clear HA
                   simp only [kimberlitelaw03_CurveConvex.j4] at H
                   have HC178 := Aside0.mk H
                   clear H
                   go_upto_if 179 with (fail)
                   go_cut [] (fun wc => ∃ (kq : Nat), Aside0 (kimberlitelaw03_CurveConvex.j6 kq a3 a4 a5 t774 t775 a0_0 a0_1 l0_2 = some r) ∧ Aside0 (kq ≤ kj167) ∧ Aside0 (Kd.R (Kd.int .i64) 3 wc w.heap.size (fun _ => True) (.slice Ao175 t808.length co175) t808) ∧ Aside0 (wc.heap[gb762]? = some (.cells #[.int .i64 a0_0, .int .i64 a0_1, (.slice A0_2 l0_2.length c0_2)] 24 (0, 0))) ∧ Aside0 (wc.heap[gb763]? = some (.cells #[.int .i64 a1_0, .int .i64 a1_1, (.slice A1_2 l1_2.length c1_2)] 24 (0, 0))) ∧ Aside0 (wc.heap[gb784]? = some (.cells #[.int .i64 t806, .int .i64 t807, (.slice Ao175 t808.length co175)] 24 (0, 0))) ∧ Aside0 (Below w.heap.size w wc))
                   case first =>
                    as_aux_lemma =>
                    have H := HC178.out
                    clear HC178
                    by_cases c179 : x179_167 = true
                    · subst c179
                      have H1 : ((kimberlitelaw03_at.f t806 t807 t808 (wrap64 (a5 + a3))).bind fun bt812 => ((curve_Valid.f t806 t807 t808).bind fun t814 => (if t814 = true then (if (bt812.2 != t775) = true then (kimberlitelaw03_CurveConvex.j5 kj167 a3 a4 a5 t774 t775 true a0_0 a0_1 l0_2) else (if bt812.2 = true then (kimberlitelaw03_CurveConvex.j5 kj167 a3 a4 a5 t774 t775 (bt812.1 != (wrap64 (t774 + a4))) a0_0 a0_1 l0_2) else (kimberlitelaw03_CurveConvex.j5 kj167 a3 a4 a5 t774 t775 false a0_0 a0_1 l0_2))) else (kimberlitelaw03_CurveConvex.j5 kj167 a3 a4 a5 t774 t775 true a0_0 a0_1 l0_2)))) = some r := by rw [if_pos rfl] at H; exact H
                      clear H
                      have H := H1
                      clear H1
                      replace H := Option.bind_eq_some_iff.mp H
                      obtain ⟨⟨t812, t813⟩, A1800, H⟩ := H
                      replace H : ((curve_Valid.f t806 t807 t808).bind fun t814 => (if t814 = true then (if (t813 != t775) = true then (kimberlitelaw03_CurveConvex.j5 kj167 a3 a4 a5 t774 t775 true a0_0 a0_1 l0_2) else (if t813 = true then (kimberlitelaw03_CurveConvex.j5 kj167 a3 a4 a5 t774 t775 (t812 != (wrap64 (t774 + a4))) a0_0 a0_1 l0_2) else (kimberlitelaw03_CurveConvex.j5 kj167 a3 a4 a5 t774 t775 false a0_0 a0_1 l0_2))) else (kimberlitelaw03_CurveConvex.j5 kj167 a3 a4 a5 t774 t775 true a0_0 a0_1 l0_2))) = some r := H
                      have A180 := Aside0.mk A1800
                      clear A1800
                      have HC181 := Aside0.mk H
                      clear H
                      have hnb182 := NB784_762.out
                      have hnc182 := NB762_784.out
                      have hnb183 := NB784_763.out
                      have hnc183 := NB763_784.out
                      have hcz184_0 : wc.cell? ⟨gb784, 0, none⟩ = some (.int .i64 t806) := (blk_cell BK784.out 0).trans rfl
                      have hcz184_1 : wc.cell? ⟨gb784, 1, none⟩ = some (.int .i64 t807) := (blk_cell BK784.out 1).trans rfl
                      have hcz184_2 : wc.cell? ⟨gb784, 2, none⟩ = some (.slice Ao175 t808.length co175) := (blk_cell BK784.out 2).trans rfl
                      have hfz184_0 := blk_frozen BK784.out 0
                      have hfz184_1 := blk_frozen BK784.out 1
                      have hfz184_2 := blk_frozen BK784.out 2
                      go_upto_region 21 with (first | ((with_reducible refine gate_callee (f := 18) rfl ?_); refine goesL_ (some 185) rfl rfl Try.func18 (by kernel_rfl) rfl #[.agg #[.int .i64 t806, .int .i64 t807, .slice Ao175 t808.length co175], .int .i64 (wrap64 (a5 + a3))] rfl (by (try simp only [List.map_toArray, List.map_cons, List.map_nil]); first | done | rfl | (simp only [List.length_drop, List.length_take]; rfl)) ?_; (with_reducible refine (kimberlitelaw03_at.calls t806 t807 _ _ t808 (wrap64 (a5 + a3)) t812 t813 _ ?side1 ?side2 A180.out).mono ?_); (case side1 => repeat (first | exact (Kd.R_reads' HO_785002.out).2.2 | (with_reducible refine Kd.C_alloc ?_ _) | (with_reducible refine Kd.C_drewN ?_ _) | (with_reducible refine Kd.C_drew ?_))); (case side2 => exact (Kd.R_reads' HO_785002.out).2.1); rintro e w185 ⟨rfl, hb⟩; refine ⟨_, rfl, ?_⟩; have n0_ := Aside0.mk (Kd.R_below (nR HO_785002) hb); have n1_ := Aside0.mk (nB BK762 hb); have n2_ := Aside0.mk (nB BK763 hb); have n3_ := Aside0.mk (nB BK784 hb); have n4_ := Aside0.mk (below_step (nC HB) hb); clear HO_785002; clear BK762; clear BK763; clear BK784; clear HB; have HO_785002 := n0_; have BK762 := n1_; have BK763 := n2_; have BK784 := n3_; have HB := n4_; clear n0_ n1_ n2_ n3_ n4_; (try clear hb); (try clear hb2); (try clear hk); (try clear hi)))
                      (try simp only [Act.put, List.setIfInBounds_toArray, List.set_cons_zero, List.set_cons_succ])
                      go_cut [205] (fun v205 wc => ∃ (kq : Nat) (x205_180 : Bool), v205 = .bool x205_180 ∧ Aside0 (kimberlitelaw03_CurveConvex.j5 kq a3 a4 a5 t774 t775 x205_180 a0_0 a0_1 l0_2 = some r) ∧ Aside0 (kq ≤ kj167) ∧ Aside0 (Kd.R (Kd.int .i64) 3 wc w.heap.size (fun _ => True) (.slice Ao175 t808.length co175) t808) ∧ Aside0 (wc.heap[gb762]? = some (.cells #[.int .i64 a0_0, .int .i64 a0_1, (.slice A0_2 l0_2.length c0_2)] 24 (0, 0))) ∧ Aside0 (wc.heap[gb763]? = some (.cells #[.int .i64 a1_0, .int .i64 a1_1, (.slice A1_2 l1_2.length c1_2)] 24 (0, 0))) ∧ Aside0 (wc.heap[gb784]? = some (.cells #[.int .i64 t806, .int .i64 t807, (.slice Ao175 t808.length co175)] 24 (0, 0))) ∧ Aside0 (Below w.heap.size w wc))
                      case first =>
                       as_aux_lemma =>
                       have H := HC181.out
                       clear HC181
                       replace H := Option.bind_eq_some_iff.mp H
                       obtain ⟨t814, A1860, H⟩ := H
                       replace H : (if t814 = true then (if (t813 != t775) = true then (kimberlitelaw03_CurveConvex.j5 kj167 a3 a4 a5 t774 t775 true a0_0 a0_1 l0_2) else (if t813 = true then (kimberlitelaw03_CurveConvex.j5 kj167 a3 a4 a5 t774 t775 (t812 != (wrap64 (t774 + a4))) a0_0 a0_1 l0_2) else (kimberlitelaw03_CurveConvex.j5 kj167 a3 a4 a5 t774 t775 false a0_0 a0_1 l0_2))) else (kimberlitelaw03_CurveConvex.j5 kj167 a3 a4 a5 t774 t775 true a0_0 a0_1 l0_2)) = some r := H
                       have A186 := Aside0.mk A1860
                       clear A1860
                       by_cases c187 : t814 = true
                       · subst c187
                         have H1 : (if (t813 != t775) = true then (kimberlitelaw03_CurveConvex.j5 kj167 a3 a4 a5 t774 t775 true a0_0 a0_1 l0_2) else (if t813 = true then (kimberlitelaw03_CurveConvex.j5 kj167 a3 a4 a5 t774 t775 (t812 != (wrap64 (t774 + a4))) a0_0 a0_1 l0_2) else (kimberlitelaw03_CurveConvex.j5 kj167 a3 a4 a5 t774 t775 false a0_0 a0_1 l0_2))) = some r := by rw [if_pos rfl] at H; exact H
                         clear H
                         have H := H1
                         clear H1
                         by_cases c188 : (t813 != t775) = true
                         · rw [if_pos c188] at H
                           have c188b0 : (t813 != t775) = true := c188
                           (try (have c188b1 : decide (t813 = t775) = false := by simpa using c188))
                           (try (have c188b2 : (t813 == t775) = false := by simpa using c188))
                           (try (have c188b3 : ¬ (t813 = t775) := by simpa using c188))
                           clear c188
                           (first | rw [c188b0] | (simp only [i64_w, i32_w]; rw [c188b0]) | skip)
                           have H' := Aside0.mk H
                           clear H
                           have hnb189 := NB784_762.out
                           have hnc189 := NB762_784.out
                           have hnb190 := NB784_763.out
                           have hnc190 := NB763_784.out
                           have hcz191_0 : w185.cell? ⟨gb784, 0, none⟩ = some (.int .i64 t806) := (blk_cell BK784.out 0).trans rfl
                           have hcz191_1 : w185.cell? ⟨gb784, 1, none⟩ = some (.int .i64 t807) := (blk_cell BK784.out 1).trans rfl
                           have hcz191_2 : w185.cell? ⟨gb784, 2, none⟩ = some (.slice Ao175 t808.length co175) := (blk_cell BK784.out 2).trans rfl
                           have hfz191_0 := blk_frozen BK784.out 0
                           have hfz191_1 := blk_frozen BK784.out 1
                           have hfz191_2 := blk_frozen BK784.out 2
                           go_wp2_with (first | ((with_reducible refine gate_callee (f := 16) rfl ?_); refine goesL_ (some 189) rfl rfl Try.func16 (by kernel_rfl) rfl #[.agg #[.int .i64 t806, .int .i64 t807, .slice Ao175 t808.length co175]] rfl (by (try simp only [List.map_toArray, List.map_cons, List.map_nil]); first | done | rfl | (simp only [List.length_drop, List.length_take]; rfl)) ?_; (with_reducible refine (curve_Valid.calls t806 t807 _ _ t808 true _ ?side1 ?side2 A186.out).mono ?_); (case side1 => repeat (first | exact (Kd.R_reads' HO_785002.out).2.2 | (with_reducible refine Kd.C_alloc ?_ _) | (with_reducible refine Kd.C_drewN ?_ _) | (with_reducible refine Kd.C_drew ?_))); (case side2 => exact (Kd.R_reads' HO_785002.out).2.1); rintro e w192 ⟨rfl, hb⟩; refine ⟨_, rfl, ?_⟩; have n0_ := Aside0.mk (Kd.R_below (nR HO_785002) hb); have n1_ := Aside0.mk (nB BK762 hb); have n2_ := Aside0.mk (nB BK763 hb); have n3_ := Aside0.mk (nB BK784 hb); have n4_ := Aside0.mk (below_step (nC HB) hb); clear HO_785002; clear BK762; clear BK763; clear BK784; clear HB; have HO_785002 := n0_; have BK762 := n1_; have BK763 := n2_; have BK784 := n3_; have HB := n4_; clear n0_ n1_ n2_ n3_ n4_; (try clear hb); (try clear hb2); (try clear hk); (try clear hi)))
                           go_meet
                           case rel => exact ⟨_, (true), (by first | rfl | (simp; done) | (simp [*]; done)), H', ⟨by have := HJ6.out; have := HJ47.out; have := HJ101.out; have := HJ135.out; have := HJ167.out; first | omega | exact Nat.le_refl _⟩, ⟨nR HO_785002⟩, ⟨nK BK762⟩, ⟨nK BK763⟩, ⟨nK BK784⟩, ⟨nC HB⟩⟩
                         · rw [if_neg c188] at H
                           have c188b0 : (t813 != t775) = false := by simpa using c188
                           (try (have c188b1 : decide (t813 = t775) = true := by simpa using c188))
                           (try (have c188b2 : (t813 == t775) = true := by simpa using c188))
                           clear c188
                           (first | rw [c188b0] | (simp only [i64_w, i32_w]; rw [c188b0]) | skip)
                           by_cases c193 : t813 = true
                           · subst c193
                             have H1 : (kimberlitelaw03_CurveConvex.j5 kj167 a3 a4 a5 t774 t775 (t812 != (wrap64 (t774 + a4))) a0_0 a0_1 l0_2) = some r := by rw [if_pos rfl] at H; exact H
                             clear H
                             have H := H1
                             clear H1
                             have H' := Aside0.mk H
                             clear H
                             have hnb194 := NB784_762.out
                             have hnc194 := NB762_784.out
                             have hnb195 := NB784_763.out
                             have hnc195 := NB763_784.out
                             have hcz196_0 : w185.cell? ⟨gb784, 0, none⟩ = some (.int .i64 t806) := (blk_cell BK784.out 0).trans rfl
                             have hcz196_1 : w185.cell? ⟨gb784, 1, none⟩ = some (.int .i64 t807) := (blk_cell BK784.out 1).trans rfl
                             have hcz196_2 : w185.cell? ⟨gb784, 2, none⟩ = some (.slice Ao175 t808.length co175) := (blk_cell BK784.out 2).trans rfl
                             have hfz196_0 := blk_frozen BK784.out 0
                             have hfz196_1 := blk_frozen BK784.out 1
                             have hfz196_2 := blk_frozen BK784.out 2
                             go_wp2_with (first | ((with_reducible refine gate_callee (f := 16) rfl ?_); refine goesL_ (some 189) rfl rfl Try.func16 (by kernel_rfl) rfl #[.agg #[.int .i64 t806, .int .i64 t807, .slice Ao175 t808.length co175]] rfl (by (try simp only [List.map_toArray, List.map_cons, List.map_nil]); first | done | rfl | (simp only [List.length_drop, List.length_take]; rfl)) ?_; (with_reducible refine (curve_Valid.calls t806 t807 _ _ t808 true _ ?side1 ?side2 A186.out).mono ?_); (case side1 => repeat (first | exact (Kd.R_reads' HO_785002.out).2.2 | (with_reducible refine Kd.C_alloc ?_ _) | (with_reducible refine Kd.C_drewN ?_ _) | (with_reducible refine Kd.C_drew ?_))); (case side2 => exact (Kd.R_reads' HO_785002.out).2.1); rintro e w197 ⟨rfl, hb⟩; refine ⟨_, rfl, ?_⟩; have n0_ := Aside0.mk (Kd.R_below (nR HO_785002) hb); have n1_ := Aside0.mk (nB BK762 hb); have n2_ := Aside0.mk (nB BK763 hb); have n3_ := Aside0.mk (nB BK784 hb); have n4_ := Aside0.mk (below_step (nC HB) hb); clear HO_785002; clear BK762; clear BK763; clear BK784; clear HB; have HO_785002 := n0_; have BK762 := n1_; have BK763 := n2_; have BK784 := n3_; have HB := n4_; clear n0_ n1_ n2_ n3_ n4_; (try clear hb); (try clear hb2); (try clear hk); (try clear hi)))
                             go_meet
                             case rel => exact ⟨_, ((t812 != (wrap64 (t774 + a4)))), (by first | rfl | (simp; done) | (simp [*]; done)), H', ⟨by have := HJ6.out; have := HJ47.out; have := HJ101.out; have := HJ135.out; have := HJ167.out; first | omega | exact Nat.le_refl _⟩, ⟨nR HO_785002⟩, ⟨nK BK762⟩, ⟨nK BK763⟩, ⟨nK BK784⟩, ⟨nC HB⟩⟩
                           · replace c193 := Bool.eq_false_iff.mpr c193
                             subst c193
                             have H1 : (kimberlitelaw03_CurveConvex.j5 kj167 a3 a4 a5 t774 t775 false a0_0 a0_1 l0_2) = some r := by rw [if_neg (show ¬ (false = true) by decide)] at H; exact H
                             clear H
                             have H := H1
                             clear H1
                             have H' := Aside0.mk H
                             clear H
                             have hnb198 := NB784_762.out
                             have hnc198 := NB762_784.out
                             have hnb199 := NB784_763.out
                             have hnc199 := NB763_784.out
                             have hcz200_0 : w185.cell? ⟨gb784, 0, none⟩ = some (.int .i64 t806) := (blk_cell BK784.out 0).trans rfl
                             have hcz200_1 : w185.cell? ⟨gb784, 1, none⟩ = some (.int .i64 t807) := (blk_cell BK784.out 1).trans rfl
                             have hcz200_2 : w185.cell? ⟨gb784, 2, none⟩ = some (.slice Ao175 t808.length co175) := (blk_cell BK784.out 2).trans rfl
                             have hfz200_0 := blk_frozen BK784.out 0
                             have hfz200_1 := blk_frozen BK784.out 1
                             have hfz200_2 := blk_frozen BK784.out 2
                             go_wp2_with (first | ((with_reducible refine gate_callee (f := 16) rfl ?_); refine goesL_ (some 189) rfl rfl Try.func16 (by kernel_rfl) rfl #[.agg #[.int .i64 t806, .int .i64 t807, .slice Ao175 t808.length co175]] rfl (by (try simp only [List.map_toArray, List.map_cons, List.map_nil]); first | done | rfl | (simp only [List.length_drop, List.length_take]; rfl)) ?_; (with_reducible refine (curve_Valid.calls t806 t807 _ _ t808 true _ ?side1 ?side2 A186.out).mono ?_); (case side1 => repeat (first | exact (Kd.R_reads' HO_785002.out).2.2 | (with_reducible refine Kd.C_alloc ?_ _) | (with_reducible refine Kd.C_drewN ?_ _) | (with_reducible refine Kd.C_drew ?_))); (case side2 => exact (Kd.R_reads' HO_785002.out).2.1); rintro e w201 ⟨rfl, hb⟩; refine ⟨_, rfl, ?_⟩; have n0_ := Aside0.mk (Kd.R_below (nR HO_785002) hb); have n1_ := Aside0.mk (nB BK762 hb); have n2_ := Aside0.mk (nB BK763 hb); have n3_ := Aside0.mk (nB BK784 hb); have n4_ := Aside0.mk (below_step (nC HB) hb); clear HO_785002; clear BK762; clear BK763; clear BK784; clear HB; have HO_785002 := n0_; have BK762 := n1_; have BK763 := n2_; have BK784 := n3_; have HB := n4_; clear n0_ n1_ n2_ n3_ n4_; (try clear hb); (try clear hb2); (try clear hk); (try clear hi)))
                             go_meet
                             case rel => exact ⟨_, (false), (by first | rfl | (simp; done) | (simp [*]; done)), H', ⟨by have := HJ6.out; have := HJ47.out; have := HJ101.out; have := HJ135.out; have := HJ167.out; first | omega | exact Nat.le_refl _⟩, ⟨nR HO_785002⟩, ⟨nK BK762⟩, ⟨nK BK763⟩, ⟨nK BK784⟩, ⟨nC HB⟩⟩
                       · replace c187 := Bool.eq_false_iff.mpr c187
                         subst c187
                         have H1 : (kimberlitelaw03_CurveConvex.j5 kj167 a3 a4 a5 t774 t775 true a0_0 a0_1 l0_2) = some r := by rw [if_neg (show ¬ (false = true) by decide)] at H; exact H
                         clear H
                         have H := H1
                         clear H1
                         have H' := Aside0.mk H
                         clear H
                         have hnb202 := NB784_762.out
                         have hnc202 := NB762_784.out
                         have hnb203 := NB784_763.out
                         have hnc203 := NB763_784.out
                         have hcz204_0 : w185.cell? ⟨gb784, 0, none⟩ = some (.int .i64 t806) := (blk_cell BK784.out 0).trans rfl
                         have hcz204_1 : w185.cell? ⟨gb784, 1, none⟩ = some (.int .i64 t807) := (blk_cell BK784.out 1).trans rfl
                         have hcz204_2 : w185.cell? ⟨gb784, 2, none⟩ = some (.slice Ao175 t808.length co175) := (blk_cell BK784.out 2).trans rfl
                         have hfz204_0 := blk_frozen BK784.out 0
                         have hfz204_1 := blk_frozen BK784.out 1
                         have hfz204_2 := blk_frozen BK784.out 2
                         go_wp2_with (first | ((with_reducible refine gate_callee (f := 16) rfl ?_); refine goesL_ (some 189) rfl rfl Try.func16 (by kernel_rfl) rfl #[.agg #[.int .i64 t806, .int .i64 t807, .slice Ao175 t808.length co175]] rfl (by (try simp only [List.map_toArray, List.map_cons, List.map_nil]); first | done | rfl | (simp only [List.length_drop, List.length_take]; rfl)) ?_; (with_reducible refine (curve_Valid.calls t806 t807 _ _ t808 false _ ?side1 ?side2 A186.out).mono ?_); (case side1 => repeat (first | exact (Kd.R_reads' HO_785002.out).2.2 | (with_reducible refine Kd.C_alloc ?_ _) | (with_reducible refine Kd.C_drewN ?_ _) | (with_reducible refine Kd.C_drew ?_))); (case side2 => exact (Kd.R_reads' HO_785002.out).2.1); rintro e w205 ⟨rfl, hb⟩; refine ⟨_, rfl, ?_⟩; have n0_ := Aside0.mk (Kd.R_below (nR HO_785002) hb); have n1_ := Aside0.mk (nB BK762 hb); have n2_ := Aside0.mk (nB BK763 hb); have n3_ := Aside0.mk (nB BK784 hb); have n4_ := Aside0.mk (below_step (nC HB) hb); clear HO_785002; clear BK762; clear BK763; clear BK784; clear HB; have HO_785002 := n0_; have BK762 := n1_; have BK763 := n2_; have BK784 := n3_; have HB := n4_; clear n0_ n1_ n2_ n3_ n4_; (try clear hb); (try clear hb2); (try clear hk); (try clear hi)))
                         go_meet
                         case rel => exact ⟨_, (true), (by first | rfl | (simp; done) | (simp [*]; done)), H', ⟨by have := HJ6.out; have := HJ47.out; have := HJ101.out; have := HJ135.out; have := HJ167.out; first | omega | exact Nat.le_refl _⟩, ⟨nR HO_785002⟩, ⟨nK BK762⟩, ⟨nK BK763⟩, ⟨nK BK784⟩, ⟨nC HB⟩⟩
                      case rest =>
                       as_aux_lemma =>
                       clear HC181
                       try clear c1
                       try clear c2
                       try clear p2
                       try clear c3
                       try clear c4
                       try clear c5
                       try clear c6
                       try clear p6
                       try clear c7
                       try clear c8
                       try clear c9
                       try clear c10
                       try clear c11
                       try clear c12
                       try clear c13
                       try clear c14
                       try clear c15
                       try clear c16
                       try clear c17
                       try clear c18
                       try clear c19
                       try clear c20
                       try clear c21
                       try clear c23
                       try clear c23b0
                       try clear c23b1
                       try clear c25
                       try clear c30
                       try clear c31
                       try clear c35
                       try clear c38
                       try clear c40
                       try clear c41
                       try clear c43
                       try clear c45
                       try clear c49
                       try clear c58
                       try clear c59
                       try clear c63
                       try clear c63b0
                       try clear c63b1
                       try clear p64
                       try clear c65
                       try clear c66
                       try clear c67
                       try clear c67b0
                       try clear c67b1
                       try clear c67b2
                       try clear c68
                       try clear c69
                       try clear c72
                       try clear c73
                       try clear c74
                       try clear c77
                       try clear c78
                       try clear c81
                       try clear c81b0
                       try clear c81b1
                       try clear c81b2
                       try clear c82
                       try clear c83
                       try clear c86
                       try clear c87
                       try clear c88
                       try clear c91
                       try clear c92
                       try clear c95
                       try clear c96
                       try clear c99
                       try clear c103
                       try clear c104
                       try clear c107
                       try clear c111
                       try clear c111b0
                       try clear c111b1
                       try clear c112
                       try clear c112b0
                       try clear c114
                       try clear c115
                       try clear c115b0
                       try clear c115b1
                       try clear c115b2
                       try clear c116
                       try clear c117
                       try clear c120
                       try clear c121
                       try clear c122
                       try clear c125
                       try clear c126
                       try clear c129
                       try clear c130
                       try clear c133
                       try clear c137
                       try clear c138
                       try clear c141
                       try clear c145
                       try clear c145b0
                       try clear c145b1
                       try clear c147
                       try clear c148
                       try clear c148b0
                       try clear c148b1
                       try clear c148b2
                       try clear c149
                       try clear c150
                       try clear c153
                       try clear c154
                       try clear c155
                       try clear c158
                       try clear c159
                       try clear c162
                       try clear c163
                       try clear c166
                       try clear c169
                       try clear c170
                       try clear c173
                       try clear c176
                       try clear c176b0
                       try clear c176b1
                       try clear c177
                       try clear c177b0
                       try clear c179
                       try clear c182
                       try clear c183
                       try clear c187
                       try clear c188
                       try clear c188b0
                       try clear c188b1
                       try clear c188b2
                       try clear c189
                       try clear c190
                       try clear c193
                       try clear c194
                       try clear c195
                       try clear c198
                       try clear c199
                       try clear c202
                       try clear c203
                       try clear hcz105_0
                       try clear hcz105_1
                       try clear hcz105_2
                       try clear hcz108_0
                       try clear hcz108_1
                       try clear hcz108_2
                       try clear hcz118_0
                       try clear hcz118_1
                       try clear hcz118_2
                       try clear hcz123_0
                       try clear hcz123_1
                       try clear hcz123_2
                       try clear hcz127_0
                       try clear hcz127_1
                       try clear hcz127_2
                       try clear hcz131_0
                       try clear hcz131_1
                       try clear hcz131_2
                       try clear hcz139_0
                       try clear hcz139_1
                       try clear hcz139_2
                       try clear hcz142_0
                       try clear hcz142_1
                       try clear hcz142_2
                       try clear hcz14_0
                       try clear hcz14_1
                       try clear hcz14_2
                       try clear hcz151_0
                       try clear hcz151_1
                       try clear hcz151_2
                       try clear hcz156_0
                       try clear hcz156_1
                       try clear hcz156_2
                       try clear hcz160_0
                       try clear hcz160_1
                       try clear hcz160_2
                       try clear hcz164_0
                       try clear hcz164_1
                       try clear hcz164_2
                       try clear hcz16_0
                       try clear hcz16_1
                       try clear hcz16_2
                       try clear hcz171_0
                       try clear hcz171_1
                       try clear hcz171_2
                       try clear hcz174_0
                       try clear hcz174_1
                       try clear hcz174_2
                       try clear hcz184_0
                       try clear hcz184_1
                       try clear hcz184_2
                       try clear hcz191_0
                       try clear hcz191_1
                       try clear hcz191_2
                       try clear hcz196_0
                       try clear hcz196_1
                       try clear hcz196_2
                       try clear hcz19_0
                       try clear hcz19_1
                       try clear hcz19_2
                       try clear hcz200_0
                       try clear hcz200_1
                       try clear hcz200_2
                       try clear hcz204_0
                       try clear hcz204_1
                       try clear hcz204_2
                       try clear hcz26_0
                       try clear hcz26_1
                       try clear hcz26_2
                       try clear hcz27_0
                       try clear hcz27_1
                       try clear hcz27_2
                       try clear hcz32_0
                       try clear hcz32_1
                       try clear hcz32_2
                       try clear hcz36_0
                       try clear hcz36_1
                       try clear hcz36_2
                       try clear hcz37_0
                       try clear hcz37_1
                       try clear hcz37_2
                       try clear hcz42_0
                       try clear hcz42_1
                       try clear hcz42_2
                       try clear hcz50_0
                       try clear hcz50_1
                       try clear hcz50_2
                       try clear hcz52_0
                       try clear hcz52_1
                       try clear hcz52_2
                       try clear hcz54_0
                       try clear hcz54_1
                       try clear hcz54_2
                       try clear hcz55_0
                       try clear hcz55_1
                       try clear hcz55_2
                       try clear hcz60_0
                       try clear hcz60_1
                       try clear hcz60_2
                       try clear hcz70_0
                       try clear hcz70_1
                       try clear hcz70_2
                       try clear hcz75_0
                       try clear hcz75_1
                       try clear hcz75_2
                       try clear hcz79_0
                       try clear hcz79_1
                       try clear hcz79_2
                       try clear hcz84_0
                       try clear hcz84_1
                       try clear hcz84_2
                       try clear hcz89_0
                       try clear hcz89_1
                       try clear hcz89_2
                       try clear hcz93_0
                       try clear hcz93_1
                       try clear hcz93_2
                       try clear hcz97_0
                       try clear hcz97_1
                       try clear hcz97_2
                       try clear hfz105_0
                       try clear hfz105_1
                       try clear hfz105_2
                       try clear hfz108_0
                       try clear hfz108_1
                       try clear hfz108_2
                       try clear hfz118_0
                       try clear hfz118_1
                       try clear hfz118_2
                       try clear hfz123_0
                       try clear hfz123_1
                       try clear hfz123_2
                       try clear hfz127_0
                       try clear hfz127_1
                       try clear hfz127_2
                       try clear hfz131_0
                       try clear hfz131_1
                       try clear hfz131_2
                       try clear hfz139_0
                       try clear hfz139_1
                       try clear hfz139_2
                       try clear hfz142_0
                       try clear hfz142_1
                       try clear hfz142_2
                       try clear hfz14_0
                       try clear hfz14_1
                       try clear hfz14_2
                       try clear hfz151_0
                       try clear hfz151_1
                       try clear hfz151_2
                       try clear hfz156_0
                       try clear hfz156_1
                       try clear hfz156_2
                       try clear hfz160_0
                       try clear hfz160_1
                       try clear hfz160_2
                       try clear hfz164_0
                       try clear hfz164_1
                       try clear hfz164_2
                       try clear hfz16_0
                       try clear hfz16_1
                       try clear hfz16_2
                       try clear hfz171_0
                       try clear hfz171_1
                       try clear hfz171_2
                       try clear hfz174_0
                       try clear hfz174_1
                       try clear hfz174_2
                       try clear hfz184_0
                       try clear hfz184_1
                       try clear hfz184_2
                       try clear hfz191_0
                       try clear hfz191_1
                       try clear hfz191_2
                       try clear hfz196_0
                       try clear hfz196_1
                       try clear hfz196_2
                       try clear hfz19_0
                       try clear hfz19_1
                       try clear hfz19_2
                       try clear hfz200_0
                       try clear hfz200_1
                       try clear hfz200_2
                       try clear hfz204_0
                       try clear hfz204_1
                       try clear hfz204_2
                       try clear hfz26_0
                       try clear hfz26_1
                       try clear hfz26_2
                       try clear hfz27_0
                       try clear hfz27_1
                       try clear hfz27_2
                       try clear hfz32_0
                       try clear hfz32_1
                       try clear hfz32_2
                       try clear hfz36_0
                       try clear hfz36_1
                       try clear hfz36_2
                       try clear hfz37_0
                       try clear hfz37_1
                       try clear hfz37_2
                       try clear hfz42_0
                       try clear hfz42_1
                       try clear hfz42_2
                       try clear hfz50_0
                       try clear hfz50_1
                       try clear hfz50_2
                       try clear hfz52_0
                       try clear hfz52_1
                       try clear hfz52_2
                       try clear hfz54_0
                       try clear hfz54_1
                       try clear hfz54_2
                       try clear hfz55_0
                       try clear hfz55_1
                       try clear hfz55_2
                       try clear hfz60_0
                       try clear hfz60_1
                       try clear hfz60_2
                       try clear hfz70_0
                       try clear hfz70_1
                       try clear hfz70_2
                       try clear hfz75_0
                       try clear hfz75_1
                       try clear hfz75_2
                       try clear hfz79_0
                       try clear hfz79_1
                       try clear hfz79_2
                       try clear hfz84_0
                       try clear hfz84_1
                       try clear hfz84_2
                       try clear hfz89_0
                       try clear hfz89_1
                       try clear hfz89_2
                       try clear hfz93_0
                       try clear hfz93_1
                       try clear hfz93_2
                       try clear hfz97_0
                       try clear hfz97_1
                       try clear hfz97_2
                       try clear p2
                       try clear p6
                       try clear p64
                       obtain ⟨kq, x205_180, rfl, HA, HJ180, HO_785002, BK762, BK763, BK784, HB⟩ := hcut
                       cases kq with
                       | zero => exact absurd HA.out (by simp [kimberlitelaw03_CurveConvex.j5])
                       | succ kj180 =>
                        have H := HA.out
                        clear HA
                        simp only [kimberlitelaw03_CurveConvex.j5] at H
                        by_cases c206 : x205_180 = true
                        · subst c206
                          have H1 : (some false) = some r := by rw [if_pos rfl] at H; exact H
                          clear H
                          have H := H1
                          clear H1
                          obtain rfl := Option.some.inj H
                          go_wp2
                          go_ret
                          exact ⟨by first | rfl | (simp [errW_none, errW_some] <;> rfl) | (simp [*, errW_none, errW_some] <;> rfl), nC HB⟩
                        · replace c206 := Bool.eq_false_iff.mpr c206
                          subst c206
                          have H1 : (kimberlitelaw03_CurveConvex.j6 kj180 a3 a4 a5 t774 t775 a0_0 a0_1 l0_2) = some r := by rw [if_neg (show ¬ (false = true) by decide)] at H; exact H
                          clear H
                          have H := H1
                          clear H1
                          have H' := Aside0.mk H
                          clear H
                          go_wp2
                          go_meet
                          case rel => exact ⟨_, H', ⟨by have := HJ6.out; have := HJ47.out; have := HJ101.out; have := HJ135.out; have := HJ167.out; have := HJ180.out; first | omega | exact Nat.le_refl _⟩, ⟨nR HO_785002⟩, ⟨nK BK762⟩, ⟨nK BK763⟩, ⟨nK BK784⟩, ⟨nC HB⟩⟩
                    · replace c179 := Bool.eq_false_iff.mpr c179
                      subst c179
                      have H1 : (kimberlitelaw03_CurveConvex.j6 kj167 a3 a4 a5 t774 t775 a0_0 a0_1 l0_2) = some r := by rw [if_neg (show ¬ (false = true) by decide)] at H; exact H
                      clear H
                      have H := H1
                      clear H1
                      have H' := Aside0.mk H
                      clear H
                      go_wp2
                      go_meet
                      case rel => exact ⟨_, H', ⟨by have := HJ6.out; have := HJ47.out; have := HJ101.out; have := HJ135.out; have := HJ167.out; first | omega | exact Nat.le_refl _⟩, ⟨nR HO_785002⟩, ⟨nK BK762⟩, ⟨nK BK763⟩, ⟨nK BK784⟩, ⟨nC HB⟩⟩
                   case rest =>
                    as_aux_lemma =>
                    clear HC178
                    try clear c1
                    try clear c2
                    try clear p2
                    try clear c3
                    try clear c4
                    try clear c5
                    try clear c6
                    try clear p6
                    try clear c7
                    try clear c8
                    try clear c9
                    try clear c10
                    try clear c11
                    try clear c12
                    try clear c13
                    try clear c14
                    try clear c15
                    try clear c16
                    try clear c17
                    try clear c18
                    try clear c19
                    try clear c20
                    try clear c21
                    try clear c23
                    try clear c23b0
                    try clear c23b1
                    try clear c25
                    try clear c30
                    try clear c31
                    try clear c35
                    try clear c38
                    try clear c40
                    try clear c41
                    try clear c43
                    try clear c45
                    try clear c49
                    try clear c58
                    try clear c59
                    try clear c63
                    try clear c63b0
                    try clear c63b1
                    try clear p64
                    try clear c65
                    try clear c66
                    try clear c67
                    try clear c67b0
                    try clear c67b1
                    try clear c67b2
                    try clear c68
                    try clear c69
                    try clear c72
                    try clear c73
                    try clear c74
                    try clear c77
                    try clear c78
                    try clear c81
                    try clear c81b0
                    try clear c81b1
                    try clear c81b2
                    try clear c82
                    try clear c83
                    try clear c86
                    try clear c87
                    try clear c88
                    try clear c91
                    try clear c92
                    try clear c95
                    try clear c96
                    try clear c99
                    try clear c103
                    try clear c104
                    try clear c107
                    try clear c111
                    try clear c111b0
                    try clear c111b1
                    try clear c112
                    try clear c112b0
                    try clear c114
                    try clear c115
                    try clear c115b0
                    try clear c115b1
                    try clear c115b2
                    try clear c116
                    try clear c117
                    try clear c120
                    try clear c121
                    try clear c122
                    try clear c125
                    try clear c126
                    try clear c129
                    try clear c130
                    try clear c133
                    try clear c137
                    try clear c138
                    try clear c141
                    try clear c145
                    try clear c145b0
                    try clear c145b1
                    try clear c147
                    try clear c148
                    try clear c148b0
                    try clear c148b1
                    try clear c148b2
                    try clear c149
                    try clear c150
                    try clear c153
                    try clear c154
                    try clear c155
                    try clear c158
                    try clear c159
                    try clear c162
                    try clear c163
                    try clear c166
                    try clear c169
                    try clear c170
                    try clear c173
                    try clear c176
                    try clear c176b0
                    try clear c176b1
                    try clear c177
                    try clear c177b0
                    try clear c179
                    try clear c182
                    try clear c183
                    try clear c187
                    try clear c188
                    try clear c188b0
                    try clear c188b1
                    try clear c188b2
                    try clear c189
                    try clear c190
                    try clear c193
                    try clear c194
                    try clear c195
                    try clear c198
                    try clear c199
                    try clear c202
                    try clear c203
                    try clear c206
                    try clear hcz105_0
                    try clear hcz105_1
                    try clear hcz105_2
                    try clear hcz108_0
                    try clear hcz108_1
                    try clear hcz108_2
                    try clear hcz118_0
                    try clear hcz118_1
                    try clear hcz118_2
                    try clear hcz123_0
                    try clear hcz123_1
                    try clear hcz123_2
                    try clear hcz127_0
                    try clear hcz127_1
                    try clear hcz127_2
                    try clear hcz131_0
                    try clear hcz131_1
                    try clear hcz131_2
                    try clear hcz139_0
                    try clear hcz139_1
                    try clear hcz139_2
                    try clear hcz142_0
                    try clear hcz142_1
                    try clear hcz142_2
                    try clear hcz14_0
                    try clear hcz14_1
                    try clear hcz14_2
                    try clear hcz151_0
                    try clear hcz151_1
                    try clear hcz151_2
                    try clear hcz156_0
                    try clear hcz156_1
                    try clear hcz156_2
                    try clear hcz160_0
                    try clear hcz160_1
                    try clear hcz160_2
                    try clear hcz164_0
                    try clear hcz164_1
                    try clear hcz164_2
                    try clear hcz16_0
                    try clear hcz16_1
                    try clear hcz16_2
                    try clear hcz171_0
                    try clear hcz171_1
                    try clear hcz171_2
                    try clear hcz174_0
                    try clear hcz174_1
                    try clear hcz174_2
                    try clear hcz184_0
                    try clear hcz184_1
                    try clear hcz184_2
                    try clear hcz191_0
                    try clear hcz191_1
                    try clear hcz191_2
                    try clear hcz196_0
                    try clear hcz196_1
                    try clear hcz196_2
                    try clear hcz19_0
                    try clear hcz19_1
                    try clear hcz19_2
                    try clear hcz200_0
                    try clear hcz200_1
                    try clear hcz200_2
                    try clear hcz204_0
                    try clear hcz204_1
                    try clear hcz204_2
                    try clear hcz26_0
                    try clear hcz26_1
                    try clear hcz26_2
                    try clear hcz27_0
                    try clear hcz27_1
                    try clear hcz27_2
                    try clear hcz32_0
                    try clear hcz32_1
                    try clear hcz32_2
                    try clear hcz36_0
                    try clear hcz36_1
                    try clear hcz36_2
                    try clear hcz37_0
                    try clear hcz37_1
                    try clear hcz37_2
                    try clear hcz42_0
                    try clear hcz42_1
                    try clear hcz42_2
                    try clear hcz50_0
                    try clear hcz50_1
                    try clear hcz50_2
                    try clear hcz52_0
                    try clear hcz52_1
                    try clear hcz52_2
                    try clear hcz54_0
                    try clear hcz54_1
                    try clear hcz54_2
                    try clear hcz55_0
                    try clear hcz55_1
                    try clear hcz55_2
                    try clear hcz60_0
                    try clear hcz60_1
                    try clear hcz60_2
                    try clear hcz70_0
                    try clear hcz70_1
                    try clear hcz70_2
                    try clear hcz75_0
                    try clear hcz75_1
                    try clear hcz75_2
                    try clear hcz79_0
                    try clear hcz79_1
                    try clear hcz79_2
                    try clear hcz84_0
                    try clear hcz84_1
                    try clear hcz84_2
                    try clear hcz89_0
                    try clear hcz89_1
                    try clear hcz89_2
                    try clear hcz93_0
                    try clear hcz93_1
                    try clear hcz93_2
                    try clear hcz97_0
                    try clear hcz97_1
                    try clear hcz97_2
                    try clear hfz105_0
                    try clear hfz105_1
                    try clear hfz105_2
                    try clear hfz108_0
                    try clear hfz108_1
                    try clear hfz108_2
                    try clear hfz118_0
                    try clear hfz118_1
                    try clear hfz118_2
                    try clear hfz123_0
                    try clear hfz123_1
                    try clear hfz123_2
                    try clear hfz127_0
                    try clear hfz127_1
                    try clear hfz127_2
                    try clear hfz131_0
                    try clear hfz131_1
                    try clear hfz131_2
                    try clear hfz139_0
                    try clear hfz139_1
                    try clear hfz139_2
                    try clear hfz142_0
                    try clear hfz142_1
                    try clear hfz142_2
                    try clear hfz14_0
                    try clear hfz14_1
                    try clear hfz14_2
                    try clear hfz151_0
                    try clear hfz151_1
                    try clear hfz151_2
                    try clear hfz156_0
                    try clear hfz156_1
                    try clear hfz156_2
                    try clear hfz160_0
                    try clear hfz160_1
                    try clear hfz160_2
                    try clear hfz164_0
                    try clear hfz164_1
                    try clear hfz164_2
                    try clear hfz16_0
                    try clear hfz16_1
                    try clear hfz16_2
                    try clear hfz171_0
                    try clear hfz171_1
                    try clear hfz171_2
                    try clear hfz174_0
                    try clear hfz174_1
                    try clear hfz174_2
                    try clear hfz184_0
                    try clear hfz184_1
                    try clear hfz184_2
                    try clear hfz191_0
                    try clear hfz191_1
                    try clear hfz191_2
                    try clear hfz196_0
                    try clear hfz196_1
                    try clear hfz196_2
                    try clear hfz19_0
                    try clear hfz19_1
                    try clear hfz19_2
                    try clear hfz200_0
                    try clear hfz200_1
                    try clear hfz200_2
                    try clear hfz204_0
                    try clear hfz204_1
                    try clear hfz204_2
                    try clear hfz26_0
                    try clear hfz26_1
                    try clear hfz26_2
                    try clear hfz27_0
                    try clear hfz27_1
                    try clear hfz27_2
                    try clear hfz32_0
                    try clear hfz32_1
                    try clear hfz32_2
                    try clear hfz36_0
                    try clear hfz36_1
                    try clear hfz36_2
                    try clear hfz37_0
                    try clear hfz37_1
                    try clear hfz37_2
                    try clear hfz42_0
                    try clear hfz42_1
                    try clear hfz42_2
                    try clear hfz50_0
                    try clear hfz50_1
                    try clear hfz50_2
                    try clear hfz52_0
                    try clear hfz52_1
                    try clear hfz52_2
                    try clear hfz54_0
                    try clear hfz54_1
                    try clear hfz54_2
                    try clear hfz55_0
                    try clear hfz55_1
                    try clear hfz55_2
                    try clear hfz60_0
                    try clear hfz60_1
                    try clear hfz60_2
                    try clear hfz70_0
                    try clear hfz70_1
                    try clear hfz70_2
                    try clear hfz75_0
                    try clear hfz75_1
                    try clear hfz75_2
                    try clear hfz79_0
                    try clear hfz79_1
                    try clear hfz79_2
                    try clear hfz84_0
                    try clear hfz84_1
                    try clear hfz84_2
                    try clear hfz89_0
                    try clear hfz89_1
                    try clear hfz89_2
                    try clear hfz93_0
                    try clear hfz93_1
                    try clear hfz93_2
                    try clear hfz97_0
                    try clear hfz97_1
                    try clear hfz97_2
                    try clear p2
                    try clear p6
                    try clear p64
                    obtain ⟨kq, HA, HJ177, HO_785002, BK762, BK763, BK784, HB⟩ := hcut
                    cases kq with
                    | zero => exact absurd HA.out (by simp [kimberlitelaw03_CurveConvex.j6])
                    | succ kj177 =>
                     have H := HA.out
                     clear HA
                     simp only [kimberlitelaw03_CurveConvex.j6] at H
                     replace H := Option.bind_eq_some_iff.mp H
                     obtain ⟨⟨t815, t816, t817, t820⟩, A2070, H⟩ := H
                     replace H : ((kimberlitelaw03_at.f t815 t816 t817 a5).bind fun bt821 => (if t820 = 0 then ((curve_Valid.f t815 t816 t817).bind fun t823 => (if t823 = true then (if t775 = true then (if a5 ≥ a3 then (if (bt821.2 == (decide (a5 ≤ a4))) = true then (if bt821.2 = true then (if bt821.1 = t774 then ((kimberlitelaw03_alive.f).bind fun t824 => (some t824)) else (some false)) else ((kimberlitelaw03_alive.f).bind fun t825 => (some t825))) else (some false)) else (if (bt821.2 == false) = true then (if bt821.2 = true then (if bt821.1 = t774 then ((kimberlitelaw03_alive.f).bind fun t826 => (some t826)) else (some false)) else ((kimberlitelaw03_alive.f).bind fun t827 => (some t827))) else (some false))) else (if (bt821.2 == false) = true then (if bt821.2 = true then (if bt821.1 = t774 then ((kimberlitelaw03_alive.f).bind fun t828 => (some t828)) else (some false)) else ((kimberlitelaw03_alive.f).bind fun t829 => (some t829))) else (some false))) else (some false))) else ((kimberlitelaw03_alive.f).bind fun t830 => (some t830)))) = some r := H
                     have A207 := Aside0.mk A2070
                     clear A2070
                     replace H := Option.bind_eq_some_iff.mp H
                     obtain ⟨⟨t821, t822⟩, A2080, H⟩ := H
                     replace H : (if t820 = 0 then ((curve_Valid.f t815 t816 t817).bind fun t823 => (if t823 = true then (if t775 = true then (if a5 ≥ a3 then (if (t822 == (decide (a5 ≤ a4))) = true then (if t822 = true then (if t821 = t774 then ((kimberlitelaw03_alive.f).bind fun t824 => (some t824)) else (some false)) else ((kimberlitelaw03_alive.f).bind fun t825 => (some t825))) else (some false)) else (if (t822 == false) = true then (if t822 = true then (if t821 = t774 then ((kimberlitelaw03_alive.f).bind fun t826 => (some t826)) else (some false)) else ((kimberlitelaw03_alive.f).bind fun t827 => (some t827))) else (some false))) else (if (t822 == false) = true then (if t822 = true then (if t821 = t774 then ((kimberlitelaw03_alive.f).bind fun t828 => (some t828)) else (some false)) else ((kimberlitelaw03_alive.f).bind fun t829 => (some t829))) else (some false))) else (some false))) else ((kimberlitelaw03_alive.f).bind fun t830 => (some t830))) = some r := H
                     have A208 := Aside0.mk A2080
                     clear A2080
                     have hnb355 := NB762_763.out
                     have hnc355 := NB763_762.out
                     have hnb356 := NB762_784.out
                     have hnc356 := NB784_762.out
                     have hcz357_0 : wc.cell? ⟨gb762, 0, none⟩ = some (.int .i64 a0_0) := (blk_cell BK762.out 0).trans rfl
                     have hcz357_1 : wc.cell? ⟨gb762, 1, none⟩ = some (.int .i64 a0_1) := (blk_cell BK762.out 1).trans rfl
                     have hcz357_2 : wc.cell? ⟨gb762, 2, none⟩ = some (.slice A0_2 l0_2.length c0_2) := (blk_cell BK762.out 2).trans rfl
                     have hfz357_0 := blk_frozen BK762.out 0
                     have hfz357_1 := blk_frozen BK762.out 1
                     have hfz357_2 := blk_frozen BK762.out 2
                     go_upto_region 25 with (first | ((with_reducible refine gate_callee (f := 47) rfl ?_); refine goesL_ (some 210) rfl rfl Try.func47 (by kernel_rfl) rfl #[.agg #[.int .i64 a0_0, .int .i64 a0_1, .slice A0_2 l0_2.length c0_2], .int .i64 a3, .int .i64 a4] rfl (by (try simp only [List.map_toArray, List.map_cons, List.map_nil]); first | done | rfl | (simp only [List.length_drop, List.length_take]; rfl)) ?_; (with_reducible refine (curve_Part.calls a0_0 a0_1 _ _ l0_2 a3 a4 t815 t816 t817 t820 _ ?side1 ?side2 A207.out).mono ?_); (case side1 => repeat (first | exact (Kd.C_below HR0_2.out HB.out) | (with_reducible refine Kd.C_alloc ?_ _) | (with_reducible refine Kd.C_drewN ?_ _) | (with_reducible refine Kd.C_drew ?_))); (case side2 => exact HC0_2.out); rintro e w358 ⟨v818, rfl, ho0, hb⟩; refine ⟨_, rfl, ?_⟩; have n0_ := Aside0.mk (Kd.R_elder' (nR HO_785002) (Kd.R_base ho0) hb); have n1_ := Aside0.mk (Kd.R_lower (Kd.R_new' ho0 (Kd.R_lt (nR HO_785002))) (below_size (nC HB))); have n2_ := Aside0.mk (nB BK762 hb); have n3_ := Aside0.mk (nB BK763 hb); have n4_ := Aside0.mk (nB BK784 hb); have n5_ := Aside0.mk (below_step (nC HB) hb); clear HO_785002; clear BK762; clear BK763; clear BK784; clear HB; have HO_785002 := n0_; have HO819 := n1_; have BK762 := n2_; have BK763 := n3_; have BK784 := n4_; have HB := n5_; clear n0_ n1_ n2_ n3_ n4_ n5_; (try clear hb); (try clear hb2); (try clear hk); (try clear hi); (try clear ho0); have hnb359 := NB784_763.out; have hnc359 := NB763_784.out; have hcz360_0 : w358.cell? ⟨gb784, 0, none⟩ = some (.int .i64 t806) := (blk_cell BK784.out 0).trans rfl; have hcz360_1 : w358.cell? ⟨gb784, 1, none⟩ = some (.int .i64 t807) := (blk_cell BK784.out 1).trans rfl; have hcz360_2 : w358.cell? ⟨gb784, 2, none⟩ = some (.slice Ao175 t808.length co175) := (blk_cell BK784.out 2).trans rfl; have hfz360_0 := blk_frozen BK784.out 0; have hfz360_1 := blk_frozen BK784.out 1; have hfz360_2 := blk_frozen BK784.out 2; obtain ⟨Ao361, co361, eo361⟩ := Kd.R_slice HO819.out; subst eo361) | ((with_reducible refine gate_callee (f := 18) rfl ?_); refine goesL_ (some 216) rfl rfl Try.func18 (by kernel_rfl) rfl #[.agg #[.int .i64 t815, .int .i64 t816, .slice Ao361 t817.length co361], .int .i64 a5] rfl (by (try simp only [List.map_toArray, List.map_cons, List.map_nil]); first | done | rfl | (simp only [List.length_drop, List.length_take]; rfl)) ?_; (with_reducible refine (kimberlitelaw03_at.calls t815 t816 _ _ t817 a5 t821 t822 _ ?side1 ?side2 A208.out).mono ?_); (case side1 => refine (Kd.R_reads' (e := 3) (base := w.heap.size) (ok := fun k_ => (True ∧ some k_ ≠ (.slice Ao175 t808.length co175 : Value).ownBlock)) (n := t817.length) (c := co361) ?_).2.2; exact (by (with_reducible repeat (first | apply Kd.R_alloc | apply Kd.R_drewN | apply Kd.R_drew)); exact (Kd.R_mono (Kd.R_far (p := ⟨gb784, 2, none⟩) (Kd.R_far (p := ⟨gb784, 1, none⟩) (Kd.R_far (p := ⟨gb784, 0, none⟩) (Kd.R_types HO819.out BK784.out (by decide)) (fun _ hk => hk.2) (.int .i64 t815)) (fun _ hk => hk.2) (.int .i64 t816)) (fun _ hk => hk.2) (.slice Ao361 t817.length co361)) (fun _ h_ => h_.1)))); (case side2 => exact (Kd.R_reads' HO819.out).2.1); rintro e w362 ⟨rfl, hb⟩; refine ⟨_, rfl, ?_⟩; have n0_ := Aside0.mk (Kd.R_below (by (with_reducible repeat (first | apply Kd.R_alloc | apply Kd.R_drewN | apply Kd.R_drew)); exact (Kd.R_mono (Kd.R_far (p := ⟨gb784, 2, none⟩) (Kd.R_far (p := ⟨gb784, 1, none⟩) (Kd.R_far (p := ⟨gb784, 0, none⟩) (Kd.R_types HO_785002.out BK784.out (by decide)) (fun _ hk => hk.2) (.int .i64 t815)) (fun _ hk => hk.2) (.int .i64 t816)) (fun _ hk => hk.2) (.slice Ao361 t817.length co361)) (fun _ h_ => h_.1))) hb); have n1_ := Aside0.mk (Kd.R_below (by (with_reducible repeat (first | apply Kd.R_alloc | apply Kd.R_drewN | apply Kd.R_drew)); exact (Kd.R_mono (Kd.R_far (p := ⟨gb784, 2, none⟩) (Kd.R_far (p := ⟨gb784, 1, none⟩) (Kd.R_far (p := ⟨gb784, 0, none⟩) (Kd.R_types HO819.out BK784.out (by decide)) (fun _ hk => hk.2) (.int .i64 t815)) (fun _ hk => hk.2) (.int .i64 t816)) (fun _ hk => hk.2) (.slice Ao361 t817.length co361)) (fun _ h_ => h_.1))) hb); have n2_ := Aside0.mk (blk_below (g := gb762) (o := .cells #[.int .i64 a0_0, .int .i64 a0_1, .slice A0_2 l0_2.length c0_2] 24 (0, 0)) (by (with_reducible repeat (first | refine blk_drewN ?_ _ | refine blk_drew ?_ | refine blk_alloc ?_ _)); refine blk_far ?_ NB762_784.out _; (with_reducible repeat (first | refine blk_drewN ?_ _ | refine blk_drew ?_ | refine blk_alloc ?_ _)); refine blk_far ?_ NB762_784.out _; (with_reducible repeat (first | refine blk_drewN ?_ _ | refine blk_drew ?_ | refine blk_alloc ?_ _)); refine blk_far ?_ NB762_784.out _; (with_reducible repeat (first | refine blk_drewN ?_ _ | refine blk_drew ?_ | refine blk_alloc ?_ _)); exact BK762.out) hb); have n3_ := Aside0.mk (blk_below (g := gb763) (o := .cells #[.int .i64 a1_0, .int .i64 a1_1, .slice A1_2 l1_2.length c1_2] 24 (0, 0)) (by (with_reducible repeat (first | refine blk_drewN ?_ _ | refine blk_drew ?_ | refine blk_alloc ?_ _)); refine blk_far ?_ NB763_784.out _; (with_reducible repeat (first | refine blk_drewN ?_ _ | refine blk_drew ?_ | refine blk_alloc ?_ _)); refine blk_far ?_ NB763_784.out _; (with_reducible repeat (first | refine blk_drewN ?_ _ | refine blk_drew ?_ | refine blk_alloc ?_ _)); refine blk_far ?_ NB763_784.out _; (with_reducible repeat (first | refine blk_drewN ?_ _ | refine blk_drew ?_ | refine blk_alloc ?_ _)); exact BK763.out) hb); have n4_ := Aside0.mk (blk_below (g := gb784) (o := .cells #[.int .i64 t815, .int .i64 t816, .slice Ao361 t817.length co361] 24 (0, 0)) (by (with_reducible repeat (first | refine blk_drewN ?_ _ | refine blk_drew ?_ | refine blk_alloc ?_ _)); refine blk_put (cs := #[.int .i64 t815, .int .i64 t816, .slice Ao175 t808.length co175]) ?_ 2 _ rfl; (with_reducible repeat (first | refine blk_drewN ?_ _ | refine blk_drew ?_ | refine blk_alloc ?_ _)); refine blk_put (cs := #[.int .i64 t815, .int .i64 t807, .slice Ao175 t808.length co175]) ?_ 1 _ rfl; (with_reducible repeat (first | refine blk_drewN ?_ _ | refine blk_drew ?_ | refine blk_alloc ?_ _)); refine blk_put (cs := #[.int .i64 t806, .int .i64 t807, .slice Ao175 t808.length co175]) ?_ 0 _ rfl; (with_reducible repeat (first | refine blk_drewN ?_ _ | refine blk_drew ?_ | refine blk_alloc ?_ _)); exact BK784.out) hb); have n5_ := Aside0.mk (below_step (nC HB) hb); clear HO_785002; clear HO819; clear BK762; clear BK763; clear BK784; clear HB; have HO_785002 := n0_; have HO819 := n1_; have BK762 := n2_; have BK763 := n3_; have BK784 := n4_; have HB := n5_; clear n0_ n1_ n2_ n3_ n4_ n5_; (try clear hb); (try clear hb2); (try clear hk); (try clear hi); have hcz363_0 : w362.cell? ⟨gb784, 0, none⟩ = some (.int .i64 t815) := (blk_cell BK784.out 0).trans rfl; have hcz363_1 : w362.cell? ⟨gb784, 1, none⟩ = some (.int .i64 t816) := (blk_cell BK784.out 1).trans rfl; have hcz363_2 : w362.cell? ⟨gb784, 2, none⟩ = some (.slice Ao361 t817.length co361) := (blk_cell BK784.out 2).trans rfl; have hfz363_0 := blk_frozen BK784.out 0; have hfz363_1 := blk_frozen BK784.out 1; have hfz363_2 := blk_frozen BK784.out 2))
                     by_cases c209 : t820 = 0
                     · rw [if_pos c209] at H
                       have c209b0 : (t820 == 0) = true := beq_iff_eq.mpr c209
                       have c209b1 : (t820 != 0) = false := bne_eq_false_iff_eq.mpr c209
                       clear c209
                       replace H := Option.bind_eq_some_iff.mp H
                       obtain ⟨t823, A2100, H⟩ := H
                       replace H : (if t823 = true then (if t775 = true then (if a5 ≥ a3 then (if (t822 == (decide (a5 ≤ a4))) = true then (if t822 = true then (if t821 = t774 then ((kimberlitelaw03_alive.f).bind fun t824 => (some t824)) else (some false)) else ((kimberlitelaw03_alive.f).bind fun t825 => (some t825))) else (some false)) else (if (t822 == false) = true then (if t822 = true then (if t821 = t774 then ((kimberlitelaw03_alive.f).bind fun t826 => (some t826)) else (some false)) else ((kimberlitelaw03_alive.f).bind fun t827 => (some t827))) else (some false))) else (if (t822 == false) = true then (if t822 = true then (if t821 = t774 then ((kimberlitelaw03_alive.f).bind fun t828 => (some t828)) else (some false)) else ((kimberlitelaw03_alive.f).bind fun t829 => (some t829))) else (some false))) else (some false)) = some r := H
                       have A210 := Aside0.mk A2100
                       clear A2100
                       by_cases c211 : t823 = true
                       · subst c211
                         have H1 : (if t775 = true then (if a5 ≥ a3 then (if (t822 == (decide (a5 ≤ a4))) = true then (if t822 = true then (if t821 = t774 then ((kimberlitelaw03_alive.f).bind fun t824 => (some t824)) else (some false)) else ((kimberlitelaw03_alive.f).bind fun t825 => (some t825))) else (some false)) else (if (t822 == false) = true then (if t822 = true then (if t821 = t774 then ((kimberlitelaw03_alive.f).bind fun t826 => (some t826)) else (some false)) else ((kimberlitelaw03_alive.f).bind fun t827 => (some t827))) else (some false))) else (if (t822 == false) = true then (if t822 = true then (if t821 = t774 then ((kimberlitelaw03_alive.f).bind fun t828 => (some t828)) else (some false)) else ((kimberlitelaw03_alive.f).bind fun t829 => (some t829))) else (some false))) = some r := by rw [if_pos rfl] at H; exact H
                         clear H
                         have H := H1
                         clear H1
                         by_cases c212 : t775 = true
                         · subst c212
                           have H1 : (if a5 ≥ a3 then (if (t822 == (decide (a5 ≤ a4))) = true then (if t822 = true then (if t821 = t774 then ((kimberlitelaw03_alive.f).bind fun t824 => (some t824)) else (some false)) else ((kimberlitelaw03_alive.f).bind fun t825 => (some t825))) else (some false)) else (if (t822 == false) = true then (if t822 = true then (if t821 = t774 then ((kimberlitelaw03_alive.f).bind fun t826 => (some t826)) else (some false)) else ((kimberlitelaw03_alive.f).bind fun t827 => (some t827))) else (some false))) = some r := by rw [if_pos rfl] at H; exact H
                           clear H
                           have H := H1
                           clear H1
                           by_cases c213 : a5 ≥ a3
                           · rw [if_pos c213] at H
                             have c213b0 : decide (a3 ≤ a5) = true := decide_eq_true c213
                             clear c213
                             by_cases c214 : (t822 == (decide (a5 ≤ a4))) = true
                             · rw [if_pos c214] at H
                               have c214b0 : (t822 == (decide (a5 ≤ a4))) = true := c214
                               (try (have c214b1 : decide (t822 = (decide (a5 ≤ a4))) = true := by simpa using c214))
                               (try (have c214b2 : (t822 == (decide (a5 ≤ a4))) = true := by simpa using c214))
                               clear c214
                               by_cases c215 : t822 = true
                               · subst c215
                                 have H1 : (if t821 = t774 then ((kimberlitelaw03_alive.f).bind fun t824 => (some t824)) else (some false)) = some r := by rw [if_pos rfl] at H; exact H
                                 clear H
                                 have H := H1
                                 clear H1
                                 by_cases c216 : t821 = t774
                                 · rw [if_pos c216] at H
                                   have c216b0 : (t821 == t774) = true := beq_iff_eq.mpr c216
                                   have c216b1 : (t821 != t774) = false := bne_eq_false_iff_eq.mpr c216
                                   clear c216
                                   replace H := Option.bind_eq_some_iff.mp H
                                   obtain ⟨t824, A2170, H⟩ := H
                                   replace H : (some t824) = some r := H
                                   have A217 := Aside0.mk A2170
                                   clear A2170
                                   obtain rfl := Option.some.inj H
                                   go_wp2_with (first | (go_at_call 16; (with_reducible refine (curve_Valid.calls t815 t816 _ _ t817 true _ ?side1 ?side2 A210.out).mono ?_); (case side1 => repeat (first | exact (Kd.R_reads' HO819.out).2.2 | (with_reducible refine Kd.C_alloc ?_ _) | (with_reducible refine Kd.C_drewN ?_ _) | (with_reducible refine Kd.C_drew ?_))); (case side2 => exact (Kd.R_reads' HO819.out).2.1); rintro e w227 ⟨rfl, hb⟩; have n0_ := Aside0.mk (Kd.R_below (nR HO_785002) hb); have n1_ := Aside0.mk (Kd.R_below (nR HO819) hb); have n2_ := Aside0.mk (nB BK762 hb); have n3_ := Aside0.mk (nB BK763 hb); have n4_ := Aside0.mk (nB BK784 hb); have n5_ := Aside0.mk (below_step (nC HB) hb); clear HO_785002; clear HO819; clear BK762; clear BK763; clear BK784; clear HB; have HO_785002 := n0_; have HO819 := n1_; have BK762 := n2_; have BK763 := n3_; have BK784 := n4_; have HB := n5_; clear n0_ n1_ n2_ n3_ n4_ n5_; (try clear hb); (try clear hb2); (try clear hk); (try clear hi)) | (go_at_call 17; (with_reducible refine (kimberlitelaw03_alive.calls  t824 _ A217.out).mono ?_); rintro e w228 ⟨rfl, hb⟩; have n0_ := Aside0.mk (Kd.R_below (nR HO_785002) hb); have n1_ := Aside0.mk (Kd.R_below (nR HO819) hb); have n2_ := Aside0.mk (nB BK762 hb); have n3_ := Aside0.mk (nB BK763 hb); have n4_ := Aside0.mk (nB BK784 hb); have n5_ := Aside0.mk (below_step (nC HB) hb); clear HO_785002; clear HO819; clear BK762; clear BK763; clear BK784; clear HB; have HO_785002 := n0_; have HO819 := n1_; have BK762 := n2_; have BK763 := n3_; have BK784 := n4_; have HB := n5_; clear n0_ n1_ n2_ n3_ n4_ n5_; (try clear hb); (try clear hb2); (try clear hk); (try clear hi)))
                                   go_ret
                                   exact ⟨by first | rfl | (simp [errW_none, errW_some] <;> rfl) | (simp [*, errW_none, errW_some] <;> rfl), nC HB⟩
                                 · rw [if_neg c216] at H
                                   have c216b0 : (t821 == t774) = false := beq_eq_false_iff_ne.mpr c216
                                   have c216b1 : (t821 != t774) = true := bne_iff_ne.mpr c216
                                   obtain rfl := Option.some.inj H
                                   go_wp2_with (first | (go_at_call 16; (with_reducible refine (curve_Valid.calls t815 t816 _ _ t817 true _ ?side1 ?side2 A210.out).mono ?_); (case side1 => repeat (first | exact (Kd.R_reads' HO819.out).2.2 | (with_reducible refine Kd.C_alloc ?_ _) | (with_reducible refine Kd.C_drewN ?_ _) | (with_reducible refine Kd.C_drew ?_))); (case side2 => exact (Kd.R_reads' HO819.out).2.1); rintro e w238 ⟨rfl, hb⟩; have n0_ := Aside0.mk (Kd.R_below (nR HO_785002) hb); have n1_ := Aside0.mk (Kd.R_below (nR HO819) hb); have n2_ := Aside0.mk (nB BK762 hb); have n3_ := Aside0.mk (nB BK763 hb); have n4_ := Aside0.mk (nB BK784 hb); have n5_ := Aside0.mk (below_step (nC HB) hb); clear HO_785002; clear HO819; clear BK762; clear BK763; clear BK784; clear HB; have HO_785002 := n0_; have HO819 := n1_; have BK762 := n2_; have BK763 := n3_; have BK784 := n4_; have HB := n5_; clear n0_ n1_ n2_ n3_ n4_ n5_; (try clear hb); (try clear hb2); (try clear hk); (try clear hi)))
                                   go_ret
                                   exact ⟨by first | rfl | (simp [errW_none, errW_some] <;> rfl) | (simp [*, errW_none, errW_some] <;> rfl), nC HB⟩
                               · replace c215 := Bool.eq_false_iff.mpr c215
                                 subst c215
                                 have H1 : ((kimberlitelaw03_alive.f).bind fun t825 => (some t825)) = some r := by rw [if_neg (show ¬ (false = true) by decide)] at H; exact H
                                 clear H
                                 have H := H1
                                 clear H1
                                 replace H := Option.bind_eq_some_iff.mp H
                                 obtain ⟨t825, A2390, H⟩ := H
                                 replace H : (some t825) = some r := H
                                 have A239 := Aside0.mk A2390
                                 clear A2390
                                 obtain rfl := Option.some.inj H
                                 go_wp2_with (first | (go_at_call 16; (with_reducible refine (curve_Valid.calls t815 t816 _ _ t817 true _ ?side1 ?side2 A210.out).mono ?_); (case side1 => repeat (first | exact (Kd.R_reads' HO819.out).2.2 | (with_reducible refine Kd.C_alloc ?_ _) | (with_reducible refine Kd.C_drewN ?_ _) | (with_reducible refine Kd.C_drew ?_))); (case side2 => exact (Kd.R_reads' HO819.out).2.1); rintro e w249 ⟨rfl, hb⟩; have n0_ := Aside0.mk (Kd.R_below (nR HO_785002) hb); have n1_ := Aside0.mk (Kd.R_below (nR HO819) hb); have n2_ := Aside0.mk (nB BK762 hb); have n3_ := Aside0.mk (nB BK763 hb); have n4_ := Aside0.mk (nB BK784 hb); have n5_ := Aside0.mk (below_step (nC HB) hb); clear HO_785002; clear HO819; clear BK762; clear BK763; clear BK784; clear HB; have HO_785002 := n0_; have HO819 := n1_; have BK762 := n2_; have BK763 := n3_; have BK784 := n4_; have HB := n5_; clear n0_ n1_ n2_ n3_ n4_ n5_; (try clear hb); (try clear hb2); (try clear hk); (try clear hi)) | (go_at_call 17; (with_reducible refine (kimberlitelaw03_alive.calls  t825 _ A239.out).mono ?_); rintro e w250 ⟨rfl, hb⟩; have n0_ := Aside0.mk (Kd.R_below (nR HO_785002) hb); have n1_ := Aside0.mk (Kd.R_below (nR HO819) hb); have n2_ := Aside0.mk (nB BK762 hb); have n3_ := Aside0.mk (nB BK763 hb); have n4_ := Aside0.mk (nB BK784 hb); have n5_ := Aside0.mk (below_step (nC HB) hb); clear HO_785002; clear HO819; clear BK762; clear BK763; clear BK784; clear HB; have HO_785002 := n0_; have HO819 := n1_; have BK762 := n2_; have BK763 := n3_; have BK784 := n4_; have HB := n5_; clear n0_ n1_ n2_ n3_ n4_ n5_; (try clear hb); (try clear hb2); (try clear hk); (try clear hi)))
                                 go_ret
                                 exact ⟨by first | rfl | (simp [errW_none, errW_some] <;> rfl) | (simp [*, errW_none, errW_some] <;> rfl), nC HB⟩
                             · rw [if_neg c214] at H
                               have c214b0 : (t822 == (decide (a5 ≤ a4))) = false := by simpa using c214
                               (try (have c214b1 : decide (t822 = (decide (a5 ≤ a4))) = false := by simpa using c214))
                               (try (have c214b2 : (t822 == (decide (a5 ≤ a4))) = false := by simpa using c214))
                               (try (have c214b3 : ¬ (t822 = (decide (a5 ≤ a4))) := by simpa using c214))
                               clear c214
                               obtain rfl := Option.some.inj H
                               go_wp2_with (first | (go_at_call 16; (with_reducible refine (curve_Valid.calls t815 t816 _ _ t817 true _ ?side1 ?side2 A210.out).mono ?_); (case side1 => repeat (first | exact (Kd.R_reads' HO819.out).2.2 | (with_reducible refine Kd.C_alloc ?_ _) | (with_reducible refine Kd.C_drewN ?_ _) | (with_reducible refine Kd.C_drew ?_))); (case side2 => exact (Kd.R_reads' HO819.out).2.1); rintro e w260 ⟨rfl, hb⟩; have n0_ := Aside0.mk (Kd.R_below (nR HO_785002) hb); have n1_ := Aside0.mk (Kd.R_below (nR HO819) hb); have n2_ := Aside0.mk (nB BK762 hb); have n3_ := Aside0.mk (nB BK763 hb); have n4_ := Aside0.mk (nB BK784 hb); have n5_ := Aside0.mk (below_step (nC HB) hb); clear HO_785002; clear HO819; clear BK762; clear BK763; clear BK784; clear HB; have HO_785002 := n0_; have HO819 := n1_; have BK762 := n2_; have BK763 := n3_; have BK784 := n4_; have HB := n5_; clear n0_ n1_ n2_ n3_ n4_ n5_; (try clear hb); (try clear hb2); (try clear hk); (try clear hi)))
                               go_ret
                               exact ⟨by first | rfl | (simp [errW_none, errW_some] <;> rfl) | (simp [*, errW_none, errW_some] <;> rfl), nC HB⟩
                           · rw [if_neg c213] at H
                             have c213b0 : decide (a3 ≤ a5) = false := decide_eq_false c213
                             clear c213
                             by_cases c261 : (t822 == false) = true
                             · rw [if_pos c261] at H
                               have c261b0 : (t822 == false) = true := c261
                               (try (have c261b1 : decide (t822 = false) = true := by simpa using c261))
                               (try (have c261b2 : (t822 == false) = true := by simpa using c261))
                               clear c261
                               by_cases c262 : t822 = true
                               · subst c262
                                 have H1 : (if t821 = t774 then ((kimberlitelaw03_alive.f).bind fun t826 => (some t826)) else (some false)) = some r := by rw [if_pos rfl] at H; exact H
                                 clear H
                                 have H := H1
                                 clear H1
                                 by_cases c263 : t821 = t774
                                 · rw [if_pos c263] at H
                                   have c263b0 : (t821 == t774) = true := beq_iff_eq.mpr c263
                                   have c263b1 : (t821 != t774) = false := bne_eq_false_iff_eq.mpr c263
                                   clear c263
                                   replace H := Option.bind_eq_some_iff.mp H
                                   obtain ⟨t826, A2640, H⟩ := H
                                   replace H : (some t826) = some r := H
                                   have A264 := Aside0.mk A2640
                                   clear A2640
                                   obtain rfl := Option.some.inj H
                                   go_wp2_with (first | (go_at_call 16; (with_reducible refine (curve_Valid.calls t815 t816 _ _ t817 true _ ?side1 ?side2 A210.out).mono ?_); (case side1 => repeat (first | exact (Kd.R_reads' HO819.out).2.2 | (with_reducible refine Kd.C_alloc ?_ _) | (with_reducible refine Kd.C_drewN ?_ _) | (with_reducible refine Kd.C_drew ?_))); (case side2 => exact (Kd.R_reads' HO819.out).2.1); rintro e w274 ⟨rfl, hb⟩; have n0_ := Aside0.mk (Kd.R_below (nR HO_785002) hb); have n1_ := Aside0.mk (Kd.R_below (nR HO819) hb); have n2_ := Aside0.mk (nB BK762 hb); have n3_ := Aside0.mk (nB BK763 hb); have n4_ := Aside0.mk (nB BK784 hb); have n5_ := Aside0.mk (below_step (nC HB) hb); clear HO_785002; clear HO819; clear BK762; clear BK763; clear BK784; clear HB; have HO_785002 := n0_; have HO819 := n1_; have BK762 := n2_; have BK763 := n3_; have BK784 := n4_; have HB := n5_; clear n0_ n1_ n2_ n3_ n4_ n5_; (try clear hb); (try clear hb2); (try clear hk); (try clear hi)) | (go_at_call 17; (with_reducible refine (kimberlitelaw03_alive.calls  t826 _ A264.out).mono ?_); rintro e w275 ⟨rfl, hb⟩; have n0_ := Aside0.mk (Kd.R_below (nR HO_785002) hb); have n1_ := Aside0.mk (Kd.R_below (nR HO819) hb); have n2_ := Aside0.mk (nB BK762 hb); have n3_ := Aside0.mk (nB BK763 hb); have n4_ := Aside0.mk (nB BK784 hb); have n5_ := Aside0.mk (below_step (nC HB) hb); clear HO_785002; clear HO819; clear BK762; clear BK763; clear BK784; clear HB; have HO_785002 := n0_; have HO819 := n1_; have BK762 := n2_; have BK763 := n3_; have BK784 := n4_; have HB := n5_; clear n0_ n1_ n2_ n3_ n4_ n5_; (try clear hb); (try clear hb2); (try clear hk); (try clear hi)))
                                   go_ret
                                   exact ⟨by first | rfl | (simp [errW_none, errW_some] <;> rfl) | (simp [*, errW_none, errW_some] <;> rfl), nC HB⟩
                                 · rw [if_neg c263] at H
                                   have c263b0 : (t821 == t774) = false := beq_eq_false_iff_ne.mpr c263
                                   have c263b1 : (t821 != t774) = true := bne_iff_ne.mpr c263
                                   obtain rfl := Option.some.inj H
                                   go_wp2_with (first | (go_at_call 16; (with_reducible refine (curve_Valid.calls t815 t816 _ _ t817 true _ ?side1 ?side2 A210.out).mono ?_); (case side1 => repeat (first | exact (Kd.R_reads' HO819.out).2.2 | (with_reducible refine Kd.C_alloc ?_ _) | (with_reducible refine Kd.C_drewN ?_ _) | (with_reducible refine Kd.C_drew ?_))); (case side2 => exact (Kd.R_reads' HO819.out).2.1); rintro e w285 ⟨rfl, hb⟩; have n0_ := Aside0.mk (Kd.R_below (nR HO_785002) hb); have n1_ := Aside0.mk (Kd.R_below (nR HO819) hb); have n2_ := Aside0.mk (nB BK762 hb); have n3_ := Aside0.mk (nB BK763 hb); have n4_ := Aside0.mk (nB BK784 hb); have n5_ := Aside0.mk (below_step (nC HB) hb); clear HO_785002; clear HO819; clear BK762; clear BK763; clear BK784; clear HB; have HO_785002 := n0_; have HO819 := n1_; have BK762 := n2_; have BK763 := n3_; have BK784 := n4_; have HB := n5_; clear n0_ n1_ n2_ n3_ n4_ n5_; (try clear hb); (try clear hb2); (try clear hk); (try clear hi)))
                                   go_ret
                                   exact ⟨by first | rfl | (simp [errW_none, errW_some] <;> rfl) | (simp [*, errW_none, errW_some] <;> rfl), nC HB⟩
                               · replace c262 := Bool.eq_false_iff.mpr c262
                                 subst c262
                                 have H1 : ((kimberlitelaw03_alive.f).bind fun t827 => (some t827)) = some r := by rw [if_neg (show ¬ (false = true) by decide)] at H; exact H
                                 clear H
                                 have H := H1
                                 clear H1
                                 replace H := Option.bind_eq_some_iff.mp H
                                 obtain ⟨t827, A2860, H⟩ := H
                                 replace H : (some t827) = some r := H
                                 have A286 := Aside0.mk A2860
                                 clear A2860
                                 obtain rfl := Option.some.inj H
                                 go_wp2_with (first | (go_at_call 16; (with_reducible refine (curve_Valid.calls t815 t816 _ _ t817 true _ ?side1 ?side2 A210.out).mono ?_); (case side1 => repeat (first | exact (Kd.R_reads' HO819.out).2.2 | (with_reducible refine Kd.C_alloc ?_ _) | (with_reducible refine Kd.C_drewN ?_ _) | (with_reducible refine Kd.C_drew ?_))); (case side2 => exact (Kd.R_reads' HO819.out).2.1); rintro e w296 ⟨rfl, hb⟩; have n0_ := Aside0.mk (Kd.R_below (nR HO_785002) hb); have n1_ := Aside0.mk (Kd.R_below (nR HO819) hb); have n2_ := Aside0.mk (nB BK762 hb); have n3_ := Aside0.mk (nB BK763 hb); have n4_ := Aside0.mk (nB BK784 hb); have n5_ := Aside0.mk (below_step (nC HB) hb); clear HO_785002; clear HO819; clear BK762; clear BK763; clear BK784; clear HB; have HO_785002 := n0_; have HO819 := n1_; have BK762 := n2_; have BK763 := n3_; have BK784 := n4_; have HB := n5_; clear n0_ n1_ n2_ n3_ n4_ n5_; (try clear hb); (try clear hb2); (try clear hk); (try clear hi)) | (go_at_call 17; (with_reducible refine (kimberlitelaw03_alive.calls  t827 _ A286.out).mono ?_); rintro e w297 ⟨rfl, hb⟩; have n0_ := Aside0.mk (Kd.R_below (nR HO_785002) hb); have n1_ := Aside0.mk (Kd.R_below (nR HO819) hb); have n2_ := Aside0.mk (nB BK762 hb); have n3_ := Aside0.mk (nB BK763 hb); have n4_ := Aside0.mk (nB BK784 hb); have n5_ := Aside0.mk (below_step (nC HB) hb); clear HO_785002; clear HO819; clear BK762; clear BK763; clear BK784; clear HB; have HO_785002 := n0_; have HO819 := n1_; have BK762 := n2_; have BK763 := n3_; have BK784 := n4_; have HB := n5_; clear n0_ n1_ n2_ n3_ n4_ n5_; (try clear hb); (try clear hb2); (try clear hk); (try clear hi)))
                                 go_ret
                                 exact ⟨by first | rfl | (simp [errW_none, errW_some] <;> rfl) | (simp [*, errW_none, errW_some] <;> rfl), nC HB⟩
                             · rw [if_neg c261] at H
                               have c261b0 : (t822 == false) = false := by simpa using c261
                               (try (have c261b1 : decide (t822 = false) = false := by simpa using c261))
                               (try (have c261b2 : (t822 == false) = false := by simpa using c261))
                               (try (have c261b3 : ¬ (t822 = false) := by simpa using c261))
                               clear c261
                               obtain rfl := Option.some.inj H
                               go_wp2_with (first | (go_at_call 16; (with_reducible refine (curve_Valid.calls t815 t816 _ _ t817 true _ ?side1 ?side2 A210.out).mono ?_); (case side1 => repeat (first | exact (Kd.R_reads' HO819.out).2.2 | (with_reducible refine Kd.C_alloc ?_ _) | (with_reducible refine Kd.C_drewN ?_ _) | (with_reducible refine Kd.C_drew ?_))); (case side2 => exact (Kd.R_reads' HO819.out).2.1); rintro e w307 ⟨rfl, hb⟩; have n0_ := Aside0.mk (Kd.R_below (nR HO_785002) hb); have n1_ := Aside0.mk (Kd.R_below (nR HO819) hb); have n2_ := Aside0.mk (nB BK762 hb); have n3_ := Aside0.mk (nB BK763 hb); have n4_ := Aside0.mk (nB BK784 hb); have n5_ := Aside0.mk (below_step (nC HB) hb); clear HO_785002; clear HO819; clear BK762; clear BK763; clear BK784; clear HB; have HO_785002 := n0_; have HO819 := n1_; have BK762 := n2_; have BK763 := n3_; have BK784 := n4_; have HB := n5_; clear n0_ n1_ n2_ n3_ n4_ n5_; (try clear hb); (try clear hb2); (try clear hk); (try clear hi)))
                               go_ret
                               exact ⟨by first | rfl | (simp [errW_none, errW_some] <;> rfl) | (simp [*, errW_none, errW_some] <;> rfl), nC HB⟩
                         · replace c212 := Bool.eq_false_iff.mpr c212
                           subst c212
                           have H1 : (if (t822 == false) = true then (if t822 = true then (if t821 = t774 then ((kimberlitelaw03_alive.f).bind fun t828 => (some t828)) else (some false)) else ((kimberlitelaw03_alive.f).bind fun t829 => (some t829))) else (some false)) = some r := by rw [if_neg (show ¬ (false = true) by decide)] at H; exact H
                           clear H
                           have H := H1
                           clear H1
                           by_cases c308 : (t822 == false) = true
                           · rw [if_pos c308] at H
                             have c308b0 : (t822 == false) = true := c308
                             (try (have c308b1 : decide (t822 = false) = true := by simpa using c308))
                             (try (have c308b2 : (t822 == false) = true := by simpa using c308))
                             clear c308
                             by_cases c309 : t822 = true
                             · subst c309
                               have H1 : (if t821 = t774 then ((kimberlitelaw03_alive.f).bind fun t828 => (some t828)) else (some false)) = some r := by rw [if_pos rfl] at H; exact H
                               clear H
                               have H := H1
                               clear H1
                               by_cases c310 : t821 = t774
                               · rw [if_pos c310] at H
                                 have c310b0 : (t821 == t774) = true := beq_iff_eq.mpr c310
                                 have c310b1 : (t821 != t774) = false := bne_eq_false_iff_eq.mpr c310
                                 clear c310
                                 replace H := Option.bind_eq_some_iff.mp H
                                 obtain ⟨t828, A3110, H⟩ := H
                                 replace H : (some t828) = some r := H
                                 have A311 := Aside0.mk A3110
                                 clear A3110
                                 obtain rfl := Option.some.inj H
                                 go_wp2_with (first | (go_at_call 16; (with_reducible refine (curve_Valid.calls t815 t816 _ _ t817 true _ ?side1 ?side2 A210.out).mono ?_); (case side1 => repeat (first | exact (Kd.R_reads' HO819.out).2.2 | (with_reducible refine Kd.C_alloc ?_ _) | (with_reducible refine Kd.C_drewN ?_ _) | (with_reducible refine Kd.C_drew ?_))); (case side2 => exact (Kd.R_reads' HO819.out).2.1); rintro e w321 ⟨rfl, hb⟩; have n0_ := Aside0.mk (Kd.R_below (nR HO_785002) hb); have n1_ := Aside0.mk (Kd.R_below (nR HO819) hb); have n2_ := Aside0.mk (nB BK762 hb); have n3_ := Aside0.mk (nB BK763 hb); have n4_ := Aside0.mk (nB BK784 hb); have n5_ := Aside0.mk (below_step (nC HB) hb); clear HO_785002; clear HO819; clear BK762; clear BK763; clear BK784; clear HB; have HO_785002 := n0_; have HO819 := n1_; have BK762 := n2_; have BK763 := n3_; have BK784 := n4_; have HB := n5_; clear n0_ n1_ n2_ n3_ n4_ n5_; (try clear hb); (try clear hb2); (try clear hk); (try clear hi)) | (go_at_call 17; (with_reducible refine (kimberlitelaw03_alive.calls  t828 _ A311.out).mono ?_); rintro e w322 ⟨rfl, hb⟩; have n0_ := Aside0.mk (Kd.R_below (nR HO_785002) hb); have n1_ := Aside0.mk (Kd.R_below (nR HO819) hb); have n2_ := Aside0.mk (nB BK762 hb); have n3_ := Aside0.mk (nB BK763 hb); have n4_ := Aside0.mk (nB BK784 hb); have n5_ := Aside0.mk (below_step (nC HB) hb); clear HO_785002; clear HO819; clear BK762; clear BK763; clear BK784; clear HB; have HO_785002 := n0_; have HO819 := n1_; have BK762 := n2_; have BK763 := n3_; have BK784 := n4_; have HB := n5_; clear n0_ n1_ n2_ n3_ n4_ n5_; (try clear hb); (try clear hb2); (try clear hk); (try clear hi)))
                                 go_ret
                                 exact ⟨by first | rfl | (simp [errW_none, errW_some] <;> rfl) | (simp [*, errW_none, errW_some] <;> rfl), nC HB⟩
                               · rw [if_neg c310] at H
                                 have c310b0 : (t821 == t774) = false := beq_eq_false_iff_ne.mpr c310
                                 have c310b1 : (t821 != t774) = true := bne_iff_ne.mpr c310
                                 obtain rfl := Option.some.inj H
                                 go_wp2_with (first | (go_at_call 16; (with_reducible refine (curve_Valid.calls t815 t816 _ _ t817 true _ ?side1 ?side2 A210.out).mono ?_); (case side1 => repeat (first | exact (Kd.R_reads' HO819.out).2.2 | (with_reducible refine Kd.C_alloc ?_ _) | (with_reducible refine Kd.C_drewN ?_ _) | (with_reducible refine Kd.C_drew ?_))); (case side2 => exact (Kd.R_reads' HO819.out).2.1); rintro e w332 ⟨rfl, hb⟩; have n0_ := Aside0.mk (Kd.R_below (nR HO_785002) hb); have n1_ := Aside0.mk (Kd.R_below (nR HO819) hb); have n2_ := Aside0.mk (nB BK762 hb); have n3_ := Aside0.mk (nB BK763 hb); have n4_ := Aside0.mk (nB BK784 hb); have n5_ := Aside0.mk (below_step (nC HB) hb); clear HO_785002; clear HO819; clear BK762; clear BK763; clear BK784; clear HB; have HO_785002 := n0_; have HO819 := n1_; have BK762 := n2_; have BK763 := n3_; have BK784 := n4_; have HB := n5_; clear n0_ n1_ n2_ n3_ n4_ n5_; (try clear hb); (try clear hb2); (try clear hk); (try clear hi)))
                                 go_ret
                                 exact ⟨by first | rfl | (simp [errW_none, errW_some] <;> rfl) | (simp [*, errW_none, errW_some] <;> rfl), nC HB⟩
                             · replace c309 := Bool.eq_false_iff.mpr c309
                               subst c309
                               have H1 : ((kimberlitelaw03_alive.f).bind fun t829 => (some t829)) = some r := by rw [if_neg (show ¬ (false = true) by decide)] at H; exact H
                               clear H
                               have H := H1
                               clear H1
                               replace H := Option.bind_eq_some_iff.mp H
                               obtain ⟨t829, A3330, H⟩ := H
                               replace H : (some t829) = some r := H
                               have A333 := Aside0.mk A3330
                               clear A3330
                               obtain rfl := Option.some.inj H
                               go_wp2_with (first | (go_at_call 16; (with_reducible refine (curve_Valid.calls t815 t816 _ _ t817 true _ ?side1 ?side2 A210.out).mono ?_); (case side1 => repeat (first | exact (Kd.R_reads' HO819.out).2.2 | (with_reducible refine Kd.C_alloc ?_ _) | (with_reducible refine Kd.C_drewN ?_ _) | (with_reducible refine Kd.C_drew ?_))); (case side2 => exact (Kd.R_reads' HO819.out).2.1); rintro e w343 ⟨rfl, hb⟩; have n0_ := Aside0.mk (Kd.R_below (nR HO_785002) hb); have n1_ := Aside0.mk (Kd.R_below (nR HO819) hb); have n2_ := Aside0.mk (nB BK762 hb); have n3_ := Aside0.mk (nB BK763 hb); have n4_ := Aside0.mk (nB BK784 hb); have n5_ := Aside0.mk (below_step (nC HB) hb); clear HO_785002; clear HO819; clear BK762; clear BK763; clear BK784; clear HB; have HO_785002 := n0_; have HO819 := n1_; have BK762 := n2_; have BK763 := n3_; have BK784 := n4_; have HB := n5_; clear n0_ n1_ n2_ n3_ n4_ n5_; (try clear hb); (try clear hb2); (try clear hk); (try clear hi)) | (go_at_call 17; (with_reducible refine (kimberlitelaw03_alive.calls  t829 _ A333.out).mono ?_); rintro e w344 ⟨rfl, hb⟩; have n0_ := Aside0.mk (Kd.R_below (nR HO_785002) hb); have n1_ := Aside0.mk (Kd.R_below (nR HO819) hb); have n2_ := Aside0.mk (nB BK762 hb); have n3_ := Aside0.mk (nB BK763 hb); have n4_ := Aside0.mk (nB BK784 hb); have n5_ := Aside0.mk (below_step (nC HB) hb); clear HO_785002; clear HO819; clear BK762; clear BK763; clear BK784; clear HB; have HO_785002 := n0_; have HO819 := n1_; have BK762 := n2_; have BK763 := n3_; have BK784 := n4_; have HB := n5_; clear n0_ n1_ n2_ n3_ n4_ n5_; (try clear hb); (try clear hb2); (try clear hk); (try clear hi)))
                               go_ret
                               exact ⟨by first | rfl | (simp [errW_none, errW_some] <;> rfl) | (simp [*, errW_none, errW_some] <;> rfl), nC HB⟩
                           · rw [if_neg c308] at H
                             have c308b0 : (t822 == false) = false := by simpa using c308
                             (try (have c308b1 : decide (t822 = false) = false := by simpa using c308))
                             (try (have c308b2 : (t822 == false) = false := by simpa using c308))
                             (try (have c308b3 : ¬ (t822 = false) := by simpa using c308))
                             clear c308
                             obtain rfl := Option.some.inj H
                             go_wp2_with (first | (go_at_call 16; (with_reducible refine (curve_Valid.calls t815 t816 _ _ t817 true _ ?side1 ?side2 A210.out).mono ?_); (case side1 => repeat (first | exact (Kd.R_reads' HO819.out).2.2 | (with_reducible refine Kd.C_alloc ?_ _) | (with_reducible refine Kd.C_drewN ?_ _) | (with_reducible refine Kd.C_drew ?_))); (case side2 => exact (Kd.R_reads' HO819.out).2.1); rintro e w354 ⟨rfl, hb⟩; have n0_ := Aside0.mk (Kd.R_below (nR HO_785002) hb); have n1_ := Aside0.mk (Kd.R_below (nR HO819) hb); have n2_ := Aside0.mk (nB BK762 hb); have n3_ := Aside0.mk (nB BK763 hb); have n4_ := Aside0.mk (nB BK784 hb); have n5_ := Aside0.mk (below_step (nC HB) hb); clear HO_785002; clear HO819; clear BK762; clear BK763; clear BK784; clear HB; have HO_785002 := n0_; have HO819 := n1_; have BK762 := n2_; have BK763 := n3_; have BK784 := n4_; have HB := n5_; clear n0_ n1_ n2_ n3_ n4_ n5_; (try clear hb); (try clear hb2); (try clear hk); (try clear hi)))
                             go_ret
                             exact ⟨by first | rfl | (simp [errW_none, errW_some] <;> rfl) | (simp [*, errW_none, errW_some] <;> rfl), nC HB⟩
                       · replace c211 := Bool.eq_false_iff.mpr c211
                         subst c211
                         have H1 : (some false) = some r := by rw [if_neg (show ¬ (false = true) by decide)] at H; exact H
                         clear H
                         have H := H1
                         clear H1
                         obtain rfl := Option.some.inj H
                         go_wp2_with (first | (go_at_call 16; (with_reducible refine (curve_Valid.calls t815 t816 _ _ t817 false _ ?side1 ?side2 A210.out).mono ?_); (case side1 => repeat (first | exact (Kd.R_reads' HO819.out).2.2 | (with_reducible refine Kd.C_alloc ?_ _) | (with_reducible refine Kd.C_drewN ?_ _) | (with_reducible refine Kd.C_drew ?_))); (case side2 => exact (Kd.R_reads' HO819.out).2.1); rintro e w364 ⟨rfl, hb⟩; have n0_ := Aside0.mk (Kd.R_below (nR HO_785002) hb); have n1_ := Aside0.mk (Kd.R_below (nR HO819) hb); have n2_ := Aside0.mk (nB BK762 hb); have n3_ := Aside0.mk (nB BK763 hb); have n4_ := Aside0.mk (nB BK784 hb); have n5_ := Aside0.mk (below_step (nC HB) hb); clear HO_785002; clear HO819; clear BK762; clear BK763; clear BK784; clear HB; have HO_785002 := n0_; have HO819 := n1_; have BK762 := n2_; have BK763 := n3_; have BK784 := n4_; have HB := n5_; clear n0_ n1_ n2_ n3_ n4_ n5_; (try clear hb); (try clear hb2); (try clear hk); (try clear hi)))
                         go_ret
                         exact ⟨by first | rfl | (simp [errW_none, errW_some] <;> rfl) | (simp [*, errW_none, errW_some] <;> rfl), nC HB⟩
                     · rw [if_neg c209] at H
                       have c209b0 : (t820 == 0) = false := beq_eq_false_iff_ne.mpr c209
                       have c209b1 : (t820 != 0) = true := bne_iff_ne.mpr c209
                       replace H := Option.bind_eq_some_iff.mp H
                       obtain ⟨t830, A3650, H⟩ := H
                       replace H : (some t830) = some r := H
                       have A365 := Aside0.mk A3650
                       clear A3650
                       obtain rfl := Option.some.inj H
                       go_wp2_with (first | (go_at_call 17; (with_reducible refine (kimberlitelaw03_alive.calls  t830 _ A365.out).mono ?_); rintro e w374 ⟨rfl, hb⟩; have n0_ := Aside0.mk (Kd.R_below (nR HO_785002) hb); have n1_ := Aside0.mk (Kd.R_below (nR HO819) hb); have n2_ := Aside0.mk (nB BK762 hb); have n3_ := Aside0.mk (nB BK763 hb); have n4_ := Aside0.mk (nB BK784 hb); have n5_ := Aside0.mk (below_step (nC HB) hb); clear HO_785002; clear HO819; clear BK762; clear BK763; clear BK784; clear HB; have HO_785002 := n0_; have HO819 := n1_; have BK762 := n2_; have BK763 := n3_; have BK784 := n4_; have HB := n5_; clear n0_ n1_ n2_ n3_ n4_ n5_; (try clear hb); (try clear hb2); (try clear hk); (try clear hi)))
                       go_ret
                       exact ⟨by first | rfl | (simp [errW_none, errW_some] <;> rfl) | (simp [*, errW_none, errW_some] <;> rfl), nC HB⟩
end Go.Proofs.Ytingjpcgehgiiaa.Pr
end
