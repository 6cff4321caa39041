/- What the proof of the law needs, trimmed and merged by wip/pack.py out of the texts YtingjpcgehgiiaaPrx19. No condition. -/
import Derived.Test.YtingjpcgehgiiaaKCurveSplits0
import Derived.Test.YtingjpcgehgiiaaKCurveSplits1
import Derived.Test.YtingjpcgehgiiaaKCurveSplits2
import Derived.Test.YtingjpcgehgiiaaKCurveSplits3
import Derived.Test.YtingjpcgehgiiaaKCurveSplits4
import Derived.Test.YtingjpcgehgiiaaKCurveSplits5
section
namespace Go.Proofs.Ytingjpcgehgiiaa.Pr
open Go.RowKit Go.Proofs.YtingjpcgehgiiaaW.PrintWords Go.Proofs.YtingjpcgehgiiaaW.PrintLast Go.Proofs.YtingjpcgehgiiaaW.PrintMore
attribute [local go_sem] max2_int min2_int max_two min_two max_three min_three max_four min_four   -- for this text's walks alone
set_option linter.unusedVariables false
set_option linter.unusedSimpArgs false
mutual
def kimberliteref03_Split.l0 : Nat → List (S24) → Int → Int → Int → List (S78) → Int → Option (List Int × Int × Int × Int)
 | 0, _, _, _, _, _, _ => none
 | k + 1, x0, x1, x8, x9, x10, x12 => if x12 < (x0.length : Int) then (if 0 ≤ x12 then ((kimberliteref03_Valid.f k ((rd_T24 x0 x12).f0) ((rd_T24 x0 x12).f1) ((rd_T24 x0 x12).f2)).bind fun t412 => (if t412 = true then ((kimberliteref03_Out.f k ((rd_T24 x0 x12).f0) ((rd_T24 x0 x12).f1) ((rd_T24 x0 x12).f2)).bind fun bt414 => (if x10.length < 4398046511104 then ((some (x10 ++ [(⟨bt414.1, bt414.2⟩ : S78)] : List (S78))).bind fun y418 => (if x12 < (y418.length : Int) then ((kimberliteref03_Row_To.f ((rd_T78 y418 x12).f0) ((rd_T78 y418 x12).f1)).bind fun t423 => (kimberliteref03_Split.l0 k x0 x1 (wrap64 (x8 + ((rd_T78 y418 x12).f0))) (wrap64 (x9 + t423)) y418 (wrap64 (x12 + 1)))) else (none))) else (none))) else (some (([] : List Int), 0, 0, 2)))) else (none)) else (if (x0.length : Int) = 0 then (some (([] : List Int), 0, 0, 2)) else (if x1 < x8 then (kimberliteref03_Split.j1 k x0 x1 x10 ([] : List (S78)) true) else (kimberliteref03_Split.j1 k x0 x1 x10 ([] : List (S78)) (decide (x1 > x9)))))
def kimberliteref03_Split.j1 : Nat → List (S24) → Int → List (S78) → List (S78) → Bool → Option (List Int × Int × Int × Int)
 | 0, _, _, _, _, _ => none
 | k + 1, x0, x1, x10, x11, x67 => if x67 = true then (some (([] : List Int), 0, 0, 10)) else (if x11.length + x10.length < 4398046511104 then (kimberliteref03_Split.l1 k x0 x1 x10 (x11 ++ x10) (wrap64 ((x0.length : Int) - 2))) else (none))
def kimberliteref03_Split.l1 : Nat → List (S24) → Int → List (S78) → List (S78) → Int → Option (List Int × Int × Int × Int)
 | 0, _, _, _, _, _ => none
 | k + 1, x0, x1, x10, x11, x13 => if x13 ≥ 0 then (if 0 ≤ x13 then (if x13 < (x10.length : Int) then (if 0 ≤ (wrap64 (x13 + 1)) then (if (wrap64 (x13 + 1)) < (x11.length : Int) then ((kimberliteref03_Joined.f k ((rd_T78 x10 x13).f0) ((rd_T78 x10 x13).f1) ((rd_T78 x11 (wrap64 (x13 + 1))).f0) ((rd_T78 x11 (wrap64 (x13 + 1))).f1)).bind fun bt429 => (if x13 < (x11.length : Int) then (kimberliteref03_Split.l1 k x0 x1 x10 (x11.set (x13 : Int).toNat (⟨bt429.1, bt429.2⟩ : S78)) (wrap64 (x13 - 1))) else (none))) else (none)) else (none)) else (none)) else (none)) else (kimberliteref03_Split.l2 k x0 x1 x10 x11 ([] : List Int) x1 (-1048576) 0)
def kimberliteref03_Split.l2 : Nat → List (S24) → Int → List (S78) → List (S78) → List Int → Int → Int → Int → Option (List Int × Int × Int × Int)
 | 0, _, _, _, _, _, _, _, _ => none
 | k + 1, x0, x1, x10, x11, x14, x15, x16, x17 => if x17 < (x0.length : Int) then (if 0 ≤ x17 then (if x17 < (x10.length : Int) then (kimberliteref03_Split.l3 k x0 x1 x10 x11 x14 x15 x16 x17 x15 ((rd_T78 x10 x17).f0)) else (none)) else (none)) else (if 0 < (x11.length : Int) then ((kimberliteref03_Row_Value.f ((rd_T78 x11 0).f0) ((rd_T78 x11 0).f1) x1).bind fun t454 => (some (x14, t454, x16, 0))) else (none))
def kimberliteref03_Split.j7 : Nat → List (S24) → Int → List (S78) → List (S78) → List Int → Int → Int → Int → Int → Option (List Int × Int × Int × Int)
 | 0, _, _, _, _, _, _, _, _, _ => none
 | k + 1, x0, x1, x10, x11, x14, x15, x16, x17, x18 => if x14.length < 17592186044416 then ((some (x14 ++ [x18] : List Int)).bind fun y445 => (if 0 ≤ x17 then (if x17 < (x10.length : Int) then (if x18 > ((rd_T78 x10 x17).f0) then ((kimberliteref03_Row_Value.f ((rd_T78 x10 x17).f0) ((rd_T78 x10 x17).f1) x18).bind fun t450 => ((kimberliteref03_Row_Value.f ((rd_T78 x10 x17).f0) ((rd_T78 x10 x17).f1) (wrap64 (x18 - 1))).bind fun t452 => (kimberliteref03_Split.l2 k x0 x1 x10 x11 y445 (wrap64 (x15 - x18)) (mx x16 (wrap64 (t450 - t452))) (wrap64 (x17 + 1))))) else (kimberliteref03_Split.l2 k x0 x1 x10 x11 y445 (wrap64 (x15 - x18)) x16 (wrap64 (x17 + 1)))) else (none)) else (none))) else (none)
def kimberliteref03_Split.l3 : Nat → List (S24) → Int → List (S78) → List (S78) → List Int → Int → Int → Int → Int → Int → Option (List Int × Int × Int × Int)
 | 0, _, _, _, _, _, _, _, _, _, _ => none
 | k + 1, x0, x1, x10, x11, x14, x15, x16, x17, x18, x19 => if 0 ≤ x17 then (if x17 < (x10.length : Int) then ((kimberliteref03_Row_To.f ((rd_T78 x10 x17).f0) ((rd_T78 x10 x17).f1)).bind fun t436 => (if x19 ≤ t436 then (kimberliteref03_Split.j5 k x0 x1 x10 x11 x14 x15 x16 x17 x18 x19 (decide ((wrap64 (x17 + 1)) < (x0.length : Int)))) else (kimberliteref03_Split.j5 k x0 x1 x10 x11 x14 x15 x16 x17 x18 x19 false))) else (none)) else (none)
def kimberliteref03_Split.j5 : Nat → List (S24) → Int → List (S78) → List (S78) → List Int → Int → Int → Int → Int → Int → Bool → Option (List Int × Int × Int × Int)
 | 0, _, _, _, _, _, _, _, _, _, _, _ => none
 | k + 1, x0, x1, x10, x11, x14, x15, x16, x17, x18, x19, x117 => if x117 = true then (if 0 ≤ (wrap64 (x17 + 1)) then (if (wrap64 (x17 + 1)) < (x11.length : Int) then ((kimberliteref03_Row_has.f ((rd_T78 x11 (wrap64 (x17 + 1))).f0) ((rd_T78 x11 (wrap64 (x17 + 1))).f1) (wrap64 (x15 - x19))).bind fun t438 => (if t438 = true then (if 0 ≤ x17 then (if x17 < (x10.length : Int) then ((kimberliteref03_Row_Value.f ((rd_T78 x10 x17).f0) ((rd_T78 x10 x17).f1) x19).bind fun t440 => ((kimberliteref03_Row_Value.f ((rd_T78 x11 (wrap64 (x17 + 1))).f0) ((rd_T78 x11 (wrap64 (x17 + 1))).f1) (wrap64 (x15 - x19))).bind fun t442 => (if x17 < (x11.length : Int) then ((kimberliteref03_Row_Value.f ((rd_T78 x11 x17).f0) ((rd_T78 x11 x17).f1) x15).bind fun t444 => (kimberliteref03_Split.j6 k x0 x1 x10 x11 x14 x15 x16 x17 x18 x19 ((wrap64 (t440 + t442)) == t444))) else (none)))) else (none)) else (none)) else (kimberliteref03_Split.j6 k x0 x1 x10 x11 x14 x15 x16 x17 x18 x19 false))) else (none)) else (none)) else (kimberliteref03_Split.j7 k x0 x1 x10 x11 x14 x15 x16 x17 x18)
def kimberliteref03_Split.j6 : Nat → List (S24) → Int → List (S78) → List (S78) → List Int → Int → Int → Int → Int → Int → Bool → Option (List Int × Int × Int × Int)
 | 0, _, _, _, _, _, _, _, _, _, _, _ => none
 | k + 1, x0, x1, x10, x11, x14, x15, x16, x17, x18, x19, x153 => if x153 = true then (kimberliteref03_Split.j7 k x0 x1 x10 x11 x14 x15 x16 x17 x19) else (kimberliteref03_Split.l3 k x0 x1 x10 x11 x14 x15 x16 x17 x18 (wrap64 (x19 + 1)))
end
def kimberliteref03_Split.f (k : Nat) (l0 : List (S24)) (a1 : Int) : Option (List Int × Int × Int × Int) := if (l0.length : Int) > 8 then (some (([] : List Int), 0, 0, 3)) else (kimberliteref03_Split.l0 k l0 a1 0 0 ([] : List (S78)) 0)
theorem kimberliteref03_Split.mono_l : ∀ k, (∀ y0 y1 y2 y3 y4 y5, LeO (kimberliteref03_Split.l0 k y0 y1 y2 y3 y4 y5) (kimberliteref03_Split.l0 (k + 1) y0 y1 y2 y3 y4 y5)) ∧ (∀ y0 y1 y2 y3 y4, LeO (kimberliteref03_Split.j1 k y0 y1 y2 y3 y4) (kimberliteref03_Split.j1 (k + 1) y0 y1 y2 y3 y4)) ∧ (∀ y0 y1 y2 y3 y4, LeO (kimberliteref03_Split.l1 k y0 y1 y2 y3 y4) (kimberliteref03_Split.l1 (k + 1) y0 y1 y2 y3 y4)) ∧ (∀ y0 y1 y2 y3 y4 y5 y6 y7, LeO (kimberliteref03_Split.l2 k y0 y1 y2 y3 y4 y5 y6 y7) (kimberliteref03_Split.l2 (k + 1) y0 y1 y2 y3 y4 y5 y6 y7)) ∧ (∀ y0 y1 y2 y3 y4 y5 y6 y7 y8, LeO (kimberliteref03_Split.j7 k y0 y1 y2 y3 y4 y5 y6 y7 y8) (kimberliteref03_Split.j7 (k + 1) y0 y1 y2 y3 y4 y5 y6 y7 y8)) ∧ (∀ y0 y1 y2 y3 y4 y5 y6 y7 y8 y9, LeO (kimberliteref03_Split.l3 k y0 y1 y2 y3 y4 y5 y6 y7 y8 y9) (kimberliteref03_Split.l3 (k + 1) y0 y1 y2 y3 y4 y5 y6 y7 y8 y9)) ∧ (∀ y0 y1 y2 y3 y4 y5 y6 y7 y8 y9 y10, LeO (kimberliteref03_Split.j5 k y0 y1 y2 y3 y4 y5 y6 y7 y8 y9 y10) (kimberliteref03_Split.j5 (k + 1) y0 y1 y2 y3 y4 y5 y6 y7 y8 y9 y10)) ∧ (∀ y0 y1 y2 y3 y4 y5 y6 y7 y8 y9 y10, LeO (kimberliteref03_Split.j6 k y0 y1 y2 y3 y4 y5 y6 y7 y8 y9 y10) (kimberliteref03_Split.j6 (k + 1) y0 y1 y2 y3 y4 y5 y6 y7 y8 y9 y10))
 | 0 => ⟨fun _ _ _ _ _ _ r h => by simp [kimberliteref03_Split.l0] at h, fun _ _ _ _ _ r h => by simp [kimberliteref03_Split.j1] at h, fun _ _ _ _ _ r h => by simp [kimberliteref03_Split.l1] at h, fun _ _ _ _ _ _ _ _ r h => by simp [kimberliteref03_Split.l2] at h, fun _ _ _ _ _ _ _ _ _ r h => by simp [kimberliteref03_Split.j7] at h, fun _ _ _ _ _ _ _ _ _ _ r h => by simp [kimberliteref03_Split.l3] at h, fun _ _ _ _ _ _ _ _ _ _ _ r h => by simp [kimberliteref03_Split.j5] at h, fun _ _ _ _ _ _ _ _ _ _ _ r h => by simp [kimberliteref03_Split.j6] at h⟩
 | k + 1 => by
  obtain ⟨ih0, ih1, ih2, ih3, ih4, ih5, ih6, ih7⟩ := kimberliteref03_Split.mono_l k; refine ⟨?_, ?_, ?_, ?_, ?_, ?_, ?_, ?_⟩
  · intro y0 y1 y2 y3 y4 y5; unfold kimberliteref03_Split.l0
    repeat' first
    | (with_reducible exact ih0 _ _ _ _ _ _)
    | (with_reducible exact ih1 _ _ _ _ _)
    | (with_reducible exact ih2 _ _ _ _ _)
    | (with_reducible exact ih3 _ _ _ _ _ _ _ _)
    | (with_reducible exact ih4 _ _ _ _ _ _ _ _ _)
    | (with_reducible exact ih5 _ _ _ _ _ _ _ _ _ _)
    | (with_reducible exact ih6 _ _ _ _ _ _ _ _ _ _ _)
    | (with_reducible exact ih7 _ _ _ _ _ _ _ _ _ _ _)
    | (with_reducible exact kimberliteref03_Joined.mono _ _ _ _ _)
    | (with_reducible exact kimberliteref03_Out.mono _ _ _ _)
    | (with_reducible exact kimberliteref03_Valid.mono _ _ _ _)
    | (with_reducible exact LeO.refl _)
    | (with_reducible exact LeO.none _)
    | (with_reducible refine LeO.ite ?_ ?_)
    | (with_reducible refine LeO.bind ?_ (fun _ => ?_))
    | exact ih0 _ _ _ _ _ _
    | exact ih1 _ _ _ _ _
    | exact ih2 _ _ _ _ _
    | exact ih3 _ _ _ _ _ _ _ _
    | exact ih4 _ _ _ _ _ _ _ _ _
    | exact ih5 _ _ _ _ _ _ _ _ _ _
    | exact ih6 _ _ _ _ _ _ _ _ _ _ _
    | exact ih7 _ _ _ _ _ _ _ _ _ _ _
    | exact kimberliteref03_Joined.mono _ _ _ _ _
    | exact kimberliteref03_Out.mono _ _ _ _
    | exact kimberliteref03_Valid.mono _ _ _ _
    | exact LeO.none _
    | refine LeO.ite ?_ ?_
    | refine LeO.bind ?_ (fun _ => ?_)
  · intro y0 y1 y2 y3 y4; unfold kimberliteref03_Split.j1
    repeat' first
    | (with_reducible exact ih0 _ _ _ _ _ _)
    | (with_reducible exact ih1 _ _ _ _ _)
    | (with_reducible exact ih2 _ _ _ _ _)
    | (with_reducible exact ih3 _ _ _ _ _ _ _ _)
    | (with_reducible exact ih4 _ _ _ _ _ _ _ _ _)
    | (with_reducible exact ih5 _ _ _ _ _ _ _ _ _ _)
    | (with_reducible exact ih6 _ _ _ _ _ _ _ _ _ _ _)
    | (with_reducible exact ih7 _ _ _ _ _ _ _ _ _ _ _)
    | (with_reducible exact kimberliteref03_Joined.mono _ _ _ _ _)
    | (with_reducible exact kimberliteref03_Out.mono _ _ _ _)
    | (with_reducible exact kimberliteref03_Valid.mono _ _ _ _)
    | (with_reducible exact LeO.refl _)
    | (with_reducible exact LeO.none _)
    | (with_reducible refine LeO.ite ?_ ?_)
    | (with_reducible refine LeO.bind ?_ (fun _ => ?_))
    | exact ih0 _ _ _ _ _ _
    | exact ih1 _ _ _ _ _
    | exact ih2 _ _ _ _ _
    | exact ih3 _ _ _ _ _ _ _ _
    | exact ih4 _ _ _ _ _ _ _ _ _
    | exact ih5 _ _ _ _ _ _ _ _ _ _
    | exact ih6 _ _ _ _ _ _ _ _ _ _ _
    | exact ih7 _ _ _ _ _ _ _ _ _ _ _
    | exact kimberliteref03_Joined.mono _ _ _ _ _
    | exact kimberliteref03_Out.mono _ _ _ _
    | exact kimberliteref03_Valid.mono _ _ _ _
    | exact LeO.none _
    | refine LeO.ite ?_ ?_
    | refine LeO.bind ?_ (fun _ => ?_)
  · intro y0 y1 y2 y3 y4; unfold kimberliteref03_Split.l1
    repeat' first
    | (with_reducible exact ih0 _ _ _ _ _ _)
    | (with_reducible exact ih1 _ _ _ _ _)
    | (with_reducible exact ih2 _ _ _ _ _)
    | (with_reducible exact ih3 _ _ _ _ _ _ _ _)
    | (with_reducible exact ih4 _ _ _ _ _ _ _ _ _)
    | (with_reducible exact ih5 _ _ _ _ _ _ _ _ _ _)
    | (with_reducible exact ih6 _ _ _ _ _ _ _ _ _ _ _)
    | (with_reducible exact ih7 _ _ _ _ _ _ _ _ _ _ _)
    | (with_reducible exact kimberliteref03_Joined.mono _ _ _ _ _)
    | (with_reducible exact kimberliteref03_Out.mono _ _ _ _)
    | (with_reducible exact kimberliteref03_Valid.mono _ _ _ _)
    | (with_reducible exact LeO.refl _)
    | (with_reducible exact LeO.none _)
    | (with_reducible refine LeO.ite ?_ ?_)
    | (with_reducible refine LeO.bind ?_ (fun _ => ?_))
    | exact ih0 _ _ _ _ _ _
    | exact ih1 _ _ _ _ _
    | exact ih2 _ _ _ _ _
    | exact ih3 _ _ _ _ _ _ _ _
    | exact ih4 _ _ _ _ _ _ _ _ _
    | exact ih5 _ _ _ _ _ _ _ _ _ _
    | exact ih6 _ _ _ _ _ _ _ _ _ _ _
    | exact ih7 _ _ _ _ _ _ _ _ _ _ _
    | exact kimberliteref03_Joined.mono _ _ _ _ _
    | exact kimberliteref03_Out.mono _ _ _ _
    | exact kimberliteref03_Valid.mono _ _ _ _
    | exact LeO.none _
    | refine LeO.ite ?_ ?_
    | refine LeO.bind ?_ (fun _ => ?_)
  · intro y0 y1 y2 y3 y4 y5 y6 y7; unfold kimberliteref03_Split.l2
    repeat' first
    | (with_reducible exact ih0 _ _ _ _ _ _)
    | (with_reducible exact ih1 _ _ _ _ _)
    | (with_reducible exact ih2 _ _ _ _ _)
    | (with_reducible exact ih3 _ _ _ _ _ _ _ _)
    | (with_reducible exact ih4 _ _ _ _ _ _ _ _ _)
    | (with_reducible exact ih5 _ _ _ _ _ _ _ _ _ _)
    | (with_reducible exact ih6 _ _ _ _ _ _ _ _ _ _ _)
    | (with_reducible exact ih7 _ _ _ _ _ _ _ _ _ _ _)
    | (with_reducible exact kimberliteref03_Joined.mono _ _ _ _ _)
    | (with_reducible exact kimberliteref03_Out.mono _ _ _ _)
    | (with_reducible exact kimberliteref03_Valid.mono _ _ _ _)
    | (with_reducible exact LeO.refl _)
    | (with_reducible exact LeO.none _)
    | (with_reducible refine LeO.ite ?_ ?_)
    | (with_reducible refine LeO.bind ?_ (fun _ => ?_))
    | exact ih0 _ _ _ _ _ _
    | exact ih1 _ _ _ _ _
    | exact ih2 _ _ _ _ _
    | exact ih3 _ _ _ _ _ _ _ _
    | exact ih4 _ _ _ _ _ _ _ _ _
    | exact ih5 _ _ _ _ _ _ _ _ _ _
    | exact ih6 _ _ _ _ _ _ _ _ _ _ _
    | exact ih7 _ _ _ _ _ _ _ _ _ _ _
    | exact kimberliteref03_Joined.mono _ _ _ _ _
    | exact kimberliteref03_Out.mono _ _ _ _
    | exact kimberliteref03_Valid.mono _ _ _ _
    | exact LeO.none _
    | refine LeO.ite ?_ ?_
    | refine LeO.bind ?_ (fun _ => ?_)
  · intro y0 y1 y2 y3 y4 y5 y6 y7 y8; unfold kimberliteref03_Split.j7
    repeat' first
    | (with_reducible exact ih0 _ _ _ _ _ _)
    | (with_reducible exact ih1 _ _ _ _ _)
    | (with_reducible exact ih2 _ _ _ _ _)
    | (with_reducible exact ih3 _ _ _ _ _ _ _ _)
    | (with_reducible exact ih4 _ _ _ _ _ _ _ _ _)
    | (with_reducible exact ih5 _ _ _ _ _ _ _ _ _ _)
    | (with_reducible exact ih6 _ _ _ _ _ _ _ _ _ _ _)
    | (with_reducible exact ih7 _ _ _ _ _ _ _ _ _ _ _)
    | (with_reducible exact kimberliteref03_Joined.mono _ _ _ _ _)
    | (with_reducible exact kimberliteref03_Out.mono _ _ _ _)
    | (with_reducible exact kimberliteref03_Valid.mono _ _ _ _)
    | (with_reducible exact LeO.refl _)
    | (with_reducible exact LeO.none _)
    | (with_reducible refine LeO.ite ?_ ?_)
    | (with_reducible refine LeO.bind ?_ (fun _ => ?_))
    | exact ih0 _ _ _ _ _ _
    | exact ih1 _ _ _ _ _
    | exact ih2 _ _ _ _ _
    | exact ih3 _ _ _ _ _ _ _ _
    | exact ih4 _ _ _ _ _ _ _ _ _
    | exact ih5 _ _ _ _ _ _ _ _ _ _
    | exact ih6 _ _ _ _ _ _ _ _ _ _ _
    | exact ih7 _ _ _ _ _ _ _ _ _ _ _
    | exact kimberliteref03_Joined.mono _ _ _ _ _
    | exact kimberliteref03_Out.mono _ _ _ _
    | exact kimberliteref03_Valid.mono _ _ _ _
    | exact LeO.none _
    | refine LeO.ite ?_ ?_
    | refine LeO.bind ?_ (fun _ => ?_)
  · intro y0 y1 y2 y3 y4 y5 y6 y7 y8 y9; unfold kimberliteref03_Split.l3
    repeat' first
    | (with_reducible exact ih0 _ _ _ _ _ _)
    | (with_reducible exact ih1 _ _ _ _ _)
    | (with_reducible exact ih2 _ _ _ _ _)
    | (with_reducible exact ih3 _ _ _ _ _ _ _ _)
    | (with_reducible exact ih4 _ _ _ _ _ _ _ _ _)
    | (with_reducible exact ih5 _ _ _ _ _ _ _ _ _ _)
    | (with_reducible exact ih6 _ _ _ _ _ _ _ _ _ _ _)
    | (with_reducible exact ih7 _ _ _ _ _ _ _ _ _ _ _)
    | (with_reducible exact kimberliteref03_Joined.mono _ _ _ _ _)
    | (with_reducible exact kimberliteref03_Out.mono _ _ _ _)
    | (with_reducible exact kimberliteref03_Valid.mono _ _ _ _)
    | (with_reducible exact LeO.refl _)
    | (with_reducible exact LeO.none _)
    | (with_reducible refine LeO.ite ?_ ?_)
    | (with_reducible refine LeO.bind ?_ (fun _ => ?_))
    | exact ih0 _ _ _ _ _ _
    | exact ih1 _ _ _ _ _
    | exact ih2 _ _ _ _ _
    | exact ih3 _ _ _ _ _ _ _ _
    | exact ih4 _ _ _ _ _ _ _ _ _
    | exact ih5 _ _ _ _ _ _ _ _ _ _
    | exact ih6 _ _ _ _ _ _ _ _ _ _ _
    | exact ih7 _ _ _ _ _ _ _ _ _ _ _
    | exact kimberliteref03_Joined.mono _ _ _ _ _
    | exact kimberliteref03_Out.mono _ _ _ _
    | exact kimberliteref03_Valid.mono _ _ _ _
    | exact LeO.none _
    | refine LeO.ite ?_ ?_
    | refine LeO.bind ?_ (fun _ => ?_)
  · intro y0 y1 y2 y3 y4 y5 y6 y7 y8 y9 y10; unfold kimberliteref03_Split.j5
    repeat' first
    | (with_reducible exact ih0 _ _ _ _ _ _)
    | (with_reducible exact ih1 _ _ _ _ _)
    | (with_reducible exact ih2 _ _ _ _ _)
    | (with_reducible exact ih3 _ _ _ _ _ _ _ _)
    | (with_reducible exact ih4 _ _ _ _ _ _ _ _ _)
    | (with_reducible exact ih5 _ _ _ _ _ _ _ _ _ _)
    | (with_reducible exact ih6 _ _ _ _ _ _ _ _ _ _ _)
    | (with_reducible exact ih7 _ _ _ _ _ _ _ _ _ _ _)
    | (with_reducible exact kimberliteref03_Joined.mono _ _ _ _ _)
    | (with_reducible exact kimberliteref03_Out.mono _ _ _ _)
    | (with_reducible exact kimberliteref03_Valid.mono _ _ _ _)
    | (with_reducible exact LeO.refl _)
    | (with_reducible exact LeO.none _)
    | (with_reducible refine LeO.ite ?_ ?_)
    | (with_reducible refine LeO.bind ?_ (fun _ => ?_))
    | exact ih0 _ _ _ _ _ _
    | exact ih1 _ _ _ _ _
    | exact ih2 _ _ _ _ _
    | exact ih3 _ _ _ _ _ _ _ _
    | exact ih4 _ _ _ _ _ _ _ _ _
    | exact ih5 _ _ _ _ _ _ _ _ _ _
    | exact ih6 _ _ _ _ _ _ _ _ _ _ _
    | exact ih7 _ _ _ _ _ _ _ _ _ _ _
    | exact kimberliteref03_Joined.mono _ _ _ _ _
    | exact kimberliteref03_Out.mono _ _ _ _
    | exact kimberliteref03_Valid.mono _ _ _ _
    | exact LeO.none _
    | refine LeO.ite ?_ ?_
    | refine LeO.bind ?_ (fun _ => ?_)
  · intro y0 y1 y2 y3 y4 y5 y6 y7 y8 y9 y10; unfold kimberliteref03_Split.j6
    repeat' first
    | (with_reducible exact ih0 _ _ _ _ _ _)
    | (with_reducible exact ih1 _ _ _ _ _)
    | (with_reducible exact ih2 _ _ _ _ _)
    | (with_reducible exact ih3 _ _ _ _ _ _ _ _)
    | (with_reducible exact ih4 _ _ _ _ _ _ _ _ _)
    | (with_reducible exact ih5 _ _ _ _ _ _ _ _ _ _)
    | (with_reducible exact ih6 _ _ _ _ _ _ _ _ _ _ _)
    | (with_reducible exact ih7 _ _ _ _ _ _ _ _ _ _ _)
    | (with_reducible exact kimberliteref03_Joined.mono _ _ _ _ _)
    | (with_reducible exact kimberliteref03_Out.mono _ _ _ _)
    | (with_reducible exact kimberliteref03_Valid.mono _ _ _ _)
    | (with_reducible exact LeO.refl _)
    | (with_reducible exact LeO.none _)
    | (with_reducible refine LeO.ite ?_ ?_)
    | (with_reducible refine LeO.bind ?_ (fun _ => ?_))
    | exact ih0 _ _ _ _ _ _
    | exact ih1 _ _ _ _ _
    | exact ih2 _ _ _ _ _
    | exact ih3 _ _ _ _ _ _ _ _
    | exact ih4 _ _ _ _ _ _ _ _ _
    | exact ih5 _ _ _ _ _ _ _ _ _ _
    | exact ih6 _ _ _ _ _ _ _ _ _ _ _
    | exact ih7 _ _ _ _ _ _ _ _ _ _ _
    | exact kimberliteref03_Joined.mono _ _ _ _ _
    | exact kimberliteref03_Out.mono _ _ _ _
    | exact kimberliteref03_Valid.mono _ _ _ _
    | exact LeO.none _
    | refine LeO.ite ?_ ?_
    | refine LeO.bind ?_ (fun _ => ?_)
theorem kimberliteref03_Split.mono : ∀ a0 a1 k, LeO (kimberliteref03_Split.f k a0 a1) (kimberliteref03_Split.f (k + 1) a0 a1) := by
 intro a0 a1 k; obtain ⟨ih0, ih1, ih2, ih3, ih4, ih5, ih6, ih7⟩ := kimberliteref03_Split.mono_l k; unfold kimberliteref03_Split.f
 repeat' first
  | (with_reducible exact ih0 _ _ _ _ _ _)
  | (with_reducible exact ih1 _ _ _ _ _)
  | (with_reducible exact ih2 _ _ _ _ _)
  | (with_reducible exact ih3 _ _ _ _ _ _ _ _)
  | (with_reducible exact ih4 _ _ _ _ _ _ _ _ _)
  | (with_reducible exact ih5 _ _ _ _ _ _ _ _ _ _)
  | (with_reducible exact ih6 _ _ _ _ _ _ _ _ _ _ _)
  | (with_reducible exact ih7 _ _ _ _ _ _ _ _ _ _ _)
  | (with_reducible exact kimberliteref03_Joined.mono _ _ _ _ _)
  | (with_reducible exact kimberliteref03_Out.mono _ _ _ _)
  | (with_reducible exact kimberliteref03_Valid.mono _ _ _ _)
  | (with_reducible exact LeO.refl _)
  | (with_reducible exact LeO.none _)
  | (with_reducible refine LeO.ite ?_ ?_)
  | (with_reducible refine LeO.bind ?_ (fun _ => ?_))
  | exact ih0 _ _ _ _ _ _
  | exact ih1 _ _ _ _ _
  | exact ih2 _ _ _ _ _
  | exact ih3 _ _ _ _ _ _ _ _
  | exact ih4 _ _ _ _ _ _ _ _ _
  | exact ih5 _ _ _ _ _ _ _ _ _ _
  | exact ih6 _ _ _ _ _ _ _ _ _ _ _
  | exact ih7 _ _ _ _ _ _ _ _ _ _ _
  | exact kimberliteref03_Joined.mono _ _ _ _ _
  | exact kimberliteref03_Out.mono _ _ _ _
  | exact kimberliteref03_Valid.mono _ _ _ _
  | exact LeO.none _
  | refine LeO.ite ?_ ?_
  | refine LeO.bind ?_ (fun _ => ?_)
def kimberliteref03_Split.T21 : Bool × List (List Nat × List Nat) := (true, [([], []), ([], []), ([], []), ([], []), ([2, 3], [2, 3]), ([4], [4]), ([], []), ([], []), ([7], [7]), ([6, 8], [6, 8]), ([9], [9]), ([5, 10], [5, 10]), ([0, 1, 0, 1, 2, 3, 4, 5, 6, 7, 8, 9, 10, 11], [0, 1]), ([12, 11, 11, 0, 1, 2, 3, 4, 5, 6, 7, 8, 9, 10, 11], [11, 12])])
def kimberliteref03_Split.B21 : List Nat := [0, 0, 0, 0, 12, 28, 0, 0, 128, 448, 960, 2044, 4095, 8191]
theorem kimberliteref03_Split.tab21 : rtab .any (opsOf Try.f23 21) = kimberliteref03_Split.T21 := by kernel_rfl
theorem kimberliteref03_Split.bits21 : waitsOk kimberliteref03_Split.T21.2 kimberliteref03_Split.B21 = true := by kernel_rfl
def kimberliteref03_Split.T31 : Bool × List (List Nat × List Nat) := (true, [([], []), ([], []), ([1], [1]), ([0, 2], [0, 2]), ([3], [3]), ([], []), ([], []), ([5, 6], [5, 6]), ([4, 7], [4, 7]), ([8, 8], [8]), ([9], [9]), ([9], [9]), ([10, 11, 9], [9, 10, 11]), ([12, 9], [9, 12]), ([9], [9]), ([13, 14, 9, 9], [9, 13, 14]), ([9], [9]), ([9], [9]), ([17, 9], [9, 17]), ([16, 18, 9], [9, 16, 18]), ([19, 9], [9, 19]), ([9], [9]), ([9], [9]), ([21, 22, 9], [9, 21, 22]), ([20, 23, 15, 9], [9, 20, 23]), ([15, 24, 9], [9, 15, 24]), ([9], [9]), ([9], [9]), ([26, 27, 9], [9, 26, 27]), ([28, 9], [9, 28]), ([9], [9]), ([29, 30, 24, 9], [9, 29, 30]), ([25, 31, 9], [9, 25, 31]), ([9, 32], [9, 32])])
def kimberliteref03_Split.B31 : List Nat := [0, 0, 2, 7, 15, 0, 0, 96, 255, 511, 1023, 1023, 4095, 8191, 1023, 32767, 1023, 1023, 132095, 459775, 984063, 1023, 1023, 6292479, 16777215, 33554431, 1023, 1023, 201327615, 469763071, 1023, 2113929215, 4294967295, 8589934591]
theorem kimberliteref03_Split.tab31 : rtab .any (opsOf Try.f23 31) = kimberliteref03_Split.T31 := by kernel_rfl
theorem kimberliteref03_Split.bits31 : waitsOk kimberliteref03_Split.T31.2 kimberliteref03_Split.B31 = true := by kernel_rfl
def kimberliteref03_Split.T36 : Bool × List (List Nat × List Nat) := (true, [([], []), ([], []), ([], []), ([1, 2], [1, 2]), ([3], [3]), ([], []), ([4, 5], [4, 5]), ([], []), ([], []), ([7, 8], [7, 8]), ([9], [9]), ([], []), ([11], [11]), ([10, 12, 6], [10, 12]), ([6, 13], [6, 13]), ([0, 14], [0, 14]), ([15, 13, 0, 1, 2, 3, 4, 5, 6, 7, 8, 9, 10, 11, 12, 13, 14, 15], [0, 15])])
def kimberliteref03_Split.B36 : List Nat := [0, 0, 0, 6, 14, 0, 62, 0, 0, 384, 896, 0, 2048, 8190, 16382, 32767, 65535]
theorem kimberliteref03_Split.tab36 : rtab .any (opsOf Try.f23 36) = kimberliteref03_Split.T36 := by kernel_rfl
theorem kimberliteref03_Split.bits36 : waitsOk kimberliteref03_Split.T36.2 kimberliteref03_Split.B36 = true := by kernel_rfl
set_option maxHeartbeats 8000000 in
set_option maxRecDepth 100000 in
theorem kimberliteref03_Split.calls (k : Nat) (A0 : Option Addr) (c0 : Nat) (l0 : List (S24)) (a1 : Int) (r1 : List Int) (r2 : Int) (r3 : Int) (r4 : Int) (w : World) (hr0 : Kd.C k24 w A0 l0.length l0) (hc0 : l0.length ≤ c0) (h : kimberliteref03_Split.f k l0 a1 = some (r1, r2, r3, r4)) :
 Calls Try.prog 23 #[.slice A0 l0.length c0, .int .i64 a1] w fun e w' => ∃ v0_ : Value, e = .returned (.tuple #[v0_, .int .i64 r2, .int .i64 r3, .int .i64 r4]) ∧ Kd.R (Kd.int .i64) 3 w' w.heap.size (fun _ => True) v0_ r1 ∧ Below w.heap.size w w' := by
 have hu24 := Try.underlying24; have hu78 := Try.underlying78; have HR0 := Aside0.mk hr0; have HC0 := Aside0.mk hc0; clear hr0 hc0; have HB := Aside0.mk (Below.refl w.heap.size w); have H : (if (l0.length : Int) > 8 then (some (([] : List Int), 0, 0, 3)) else (kimberliteref03_Split.l0 k l0 a1 0 0 ([] : List (S78)) 0)) = some (r1, r2, r3, r4) := h; clear h
 by_cases c3 : (l0.length : Int) > 8
 · rw [if_pos c3] at H; have c3b0 : decide (8 < (l0.length : Int)) = true := decide_eq_true c3; have c3b1 : decide (8 < l0.length) = true := decide_eq_true (by omega); clear c3; simp only [Option.some.injEq, Prod.mk.injEq] at H; obtain ⟨rfl, rfl, rfl, rfl⟩ := H; go_enter Try.func23, Try.ntmps23
   go_wp2
   refine bodyPost_ret (results_list (rs := [.tmp 4, .tmp 5, .tmp 6, .tmp 7]) rfl (by simp) (.tmp (.tmp (.tmp (.tmp .nil))))) rfl ?_; exact ⟨_, by first | rfl | (simp [errW_none, errW_some] <;> rfl) | (simp [*, errW_none, errW_some] <;> rfl), by first | exact Kd.R_nil _ _ _ _ _ | exact Kd.N_nil _ _ _ _ _ | exact Kd.V_nil _ _ _ _ _ | exact Kd.Q_nil _ _ _ _ _ | exact Kd.S_nil _ _ _ _ _, nC HB⟩
 · rw [if_neg c3] at H; have c3b0 : decide (8 < (l0.length : Int)) = false := decide_eq_false c3; have c3b1 : decide (8 < l0.length) = false := decide_eq_false (by omega); clear c3; have H' := Aside0.mk H; clear H; go_enter Try.func23, Try.ntmps23
   go_wp2
   go_loopg [8, 9, 10, 12] k (fun kq v8 v9 v10 v12 w' => ∃ (x8_1 : Int) (x9_1 : Int) (x10_1 : List (S78)) (x12_1 : Int), v8 = .int .i64 x8_1 ∧ v9 = .int .i64 x9_1 ∧ v12 = .int .i64 x12_1 ∧ Aside0 (kimberliteref03_Split.l0 kq l0 a1 x8_1 x9_1 x10_1 x12_1 = some (r1, r2, r3, r4)) ∧ Aside0 (kq ≤ k) ∧ Aside0 (Kd.N k78 78 w' w.heap.size (fun _ => True) v10 x10_1) ∧ Aside0 (Below w.heap.size w w'))
   case atStart => exact ⟨(0), (0), (([] : List (S78))), (0), (by first | rfl | (simp; done) | (simp [*]; done)), (by first | rfl | (simp; done) | (simp [*]; done)), (by first | rfl | (simp; done) | (simp [*]; done)), H', ⟨Nat.le_refl _⟩, ⟨by first | exact Kd.S_nil _ _ _ _ _ | exact Kd.N_nil _ _ _ _ _ | exact Kd.V_nil _ _ _ _ _ | exact Kd.Q_nil _ _ _ _ _ | exact Kd.R_nil _ _ _ _ _⟩, ⟨nC HB⟩⟩
   case round =>
    as_aux_lemma =>
    clear H'; obtain ⟨x8_1, x9_1, x10_1, x12_1, rfl, rfl, rfl, HA, HK1, HO_10, HB⟩ := hrel
    cases gk with
    | zero => exact absurd HA.out (by simp [kimberliteref03_Split.l0])
    | succ k1 =>
     have H := HA.out; clear HA; simp only [kimberliteref03_Split.l0] at H
     by_cases c4 : x12_1 < (l0.length : Int)
     · rw [if_pos c4] at H; have c4b0 : decide (x12_1 < (l0.length : Int)) = true := decide_eq_true c4; clear c4
       by_cases c5 : 0 ≤ x12_1
       · rw [if_pos c5] at H; have c5b0 : decide (0 ≤ x12_1) = true := decide_eq_true c5; clear c5; replace H := Option.bind_eq_some_iff.mp H; obtain ⟨t412, A60, H⟩ := H; replace H : (if t412 = true then ((kimberliteref03_Out.f k1 ((rd_T24 l0 x12_1).f0) ((rd_T24 l0 x12_1).f1) ((rd_T24 l0 x12_1).f2)).bind fun bt414 => (if x10_1.length < 4398046511104 then ((some (x10_1 ++ [(⟨bt414.1, bt414.2⟩ : S78)] : List (S78))).bind fun y418 => (if x12_1 < (y418.length : Int) then ((kimberliteref03_Row_To.f ((rd_T78 y418 x12_1).f0) ((rd_T78 y418 x12_1).f1)).bind fun t423 => (kimberliteref03_Split.l0 k1 l0 a1 (wrap64 (x8_1 + ((rd_T78 y418 x12_1).f0))) (wrap64 (x9_1 + t423)) y418 (wrap64 (x12_1 + 1)))) else (none))) else (none))) else (some (([] : List Int), 0, 0, 2))) = some (r1, r2, r3, r4) := H; have A6 := Aside0.mk A60; clear A60
         by_cases c7 : t412 = true
         · subst c7; replace H : ((kimberliteref03_Out.f k1 ((rd_T24 l0 x12_1).f0) ((rd_T24 l0 x12_1).f1) ((rd_T24 l0 x12_1).f2)).bind fun bt414 => (if x10_1.length < 4398046511104 then ((some (x10_1 ++ [(⟨bt414.1, bt414.2⟩ : S78)] : List (S78))).bind fun y418 => (if x12_1 < (y418.length : Int) then ((kimberliteref03_Row_To.f ((rd_T78 y418 x12_1).f0) ((rd_T78 y418 x12_1).f1)).bind fun t423 => (kimberliteref03_Split.l0 k1 l0 a1 (wrap64 (x8_1 + ((rd_T78 y418 x12_1).f0))) (wrap64 (x9_1 + t423)) y418 (wrap64 (x12_1 + 1)))) else (none))) else (none))) = some (r1, r2, r3, r4) := by rw [if_pos rfl] at H; exact H
           replace H := Option.bind_eq_some_iff.mp H; obtain ⟨⟨t414, t415⟩, A80, H⟩ := H; replace H : (if x10_1.length < 4398046511104 then ((some (x10_1 ++ [(⟨t414, t415⟩ : S78)] : List (S78))).bind fun y418 => (if x12_1 < (y418.length : Int) then ((kimberliteref03_Row_To.f ((rd_T78 y418 x12_1).f0) ((rd_T78 y418 x12_1).f1)).bind fun t423 => (kimberliteref03_Split.l0 k1 l0 a1 (wrap64 (x8_1 + ((rd_T78 y418 x12_1).f0))) (wrap64 (x9_1 + t423)) y418 (wrap64 (x12_1 + 1)))) else (none))) else (none)) = some (r1, r2, r3, r4) := H; have A8 := Aside0.mk A80; clear A80
           by_cases c9 : x10_1.length < 4398046511104
           · rw [if_pos c9] at H; have LMc9 := Aside0.mk c9; clear c9; obtain ⟨y418, hy418⟩ : ∃ y_ : List (S78), y_ = (x10_1 ++ [(⟨t414, t415⟩ : S78)]) := ⟨_, rfl⟩; replace H : (if x12_1 < (y418.length : Int) then ((kimberliteref03_Row_To.f ((rd_T78 y418 x12_1).f0) ((rd_T78 y418 x12_1).f1)).bind fun t423 => (kimberliteref03_Split.l0 k1 l0 a1 (wrap64 (x8_1 + ((rd_T78 y418 x12_1).f0))) (wrap64 (x9_1 + t423)) y418 (wrap64 (x12_1 + 1)))) else (none)) = some (r1, r2, r3, r4) := by first | (rw [hy418]; with_reducible exact H) | (have H2_ := (Option.bind_some _ _).symm.trans H; rw [hy418]; with_reducible exact H2_) | (have H2_ := (Option.bind_some _ _).symm.trans H; with_reducible exact H2_) | with_reducible exact H | (rw [hy418]; exact H) | exact H
             have Ny418 := Aside0.mk hy418; clear hy418
             by_cases c10 : x12_1 < (y418.length : Int)
             · rw [if_pos c10] at H; have c10b0 : decide (x12_1 < (y418.length : Int)) = true := decide_eq_true c10; clear c10; replace H := Option.bind_eq_some_iff.mp H; obtain ⟨t423, A110, H⟩ := H; replace H : (kimberliteref03_Split.l0 k1 l0 a1 (wrap64 (x8_1 + ((rd_T78 y418 x12_1).f0))) (wrap64 (x9_1 + t423)) y418 (wrap64 (x12_1 + 1))) = some (r1, r2, r3, r4) := H; have A11 := Aside0.mk A110; clear A110; have H' := Aside0.mk H; clear H; have p411 : 0 ≤ (x12_1 : Int) := of_decide_eq_true (by first | (with_reducible assumption) | assumption); have q411 : x12_1 < (l0.length : Int) := of_decide_eq_true (by first | (with_reducible assumption) | assumption); obtain ⟨ad411, A411_2, c411_2, e411, hx411_0, hx411_1, hx411_2, hl411_2, hi411_2⟩ := at_T24 HR0.out x12_1 p411 q411
               cases e411
               replace hx411_0 := (HB.out.cell (World.block_lt_of_cell? w _ hx411_0)).trans hx411_0; replace hx411_1 := (HB.out.cell (World.block_lt_of_cell? w _ hx411_1)).trans hx411_1; replace hx411_2 := (HB.out.cell (World.block_lt_of_cell? w _ hx411_2)).trans hx411_2; have HR411_2 := Aside0.mk hi411_2; have HC411_2 := Aside0.mk hl411_2; clear hi411_2 hl411_2; replace p411 := eq_true p411; replace q411 := eq_true q411; go_wp2_with (first | ((with_reducible refine gate_callee (f := 30) rfl ?_); refine gL (some 33) Try.func30 #[.agg #[.int .i64 ((rd_T24 l0 x12_1).f0), .int .i64 ((rd_T24 l0 x12_1).f1), .slice A411_2 ((rd_T24 l0 x12_1).f2).length c411_2]] ?_; (with_reducible refine (kimberliteref03_Valid.calls k1 ((rd_T24 l0 x12_1).f0) ((rd_T24 l0 x12_1).f1) _ _ ((rd_T24 l0 x12_1).f2) true _ ?side1 ?side2 A6.out).mono ?_); (case side1 => exact nS HR411_2 HB); (case side2 => exact HC411_2.out); rintro e w12 ⟨rfl, hb⟩; refine ⟨_, rfl, ?_⟩; replace HO_10 := Aside0.mk (Kd.N_below (nN HO_10) hb); replace HB := Aside0.mk (below_step (nC HB) hb); (try clear hb); (try clear hb2); (try clear hk); (try clear hi); have p413 : 0 ≤ (x12_1 : Int) := of_decide_eq_true (by first | (with_reducible assumption) | assumption); have q413 : x12_1 < (l0.length : Int) := of_decide_eq_true (by first | (with_reducible assumption) | assumption); obtain ⟨ad413, A413_2, c413_2, e413, hx413_0, hx413_1, hx413_2, hl413_2, hi413_2⟩ := at_T24 HR0.out x12_1 p413 q413; obtain rfl : ad411 = ad413 := (by injection e413); replace hx413_0 := (HB.out.cell (World.block_lt_of_cell? w _ hx413_0)).trans hx413_0; replace hx413_1 := (HB.out.cell (World.block_lt_of_cell? w _ hx413_1)).trans hx413_1; replace hx413_2 := (HB.out.cell (World.block_lt_of_cell? w _ hx413_2)).trans hx413_2; have HR413_2 := Aside0.mk hi413_2; have HC413_2 := Aside0.mk hl413_2; clear hi413_2 hl413_2; replace p413 := eq_true p413; replace q413 := eq_true q413) | ((with_reducible refine gate_callee (f := 64) rfl ?_); refine gL (some 40) Try.func64 #[.agg #[.int .i64 ((rd_T24 l0 x12_1).f0), .int .i64 ((rd_T24 l0 x12_1).f1), .slice A413_2 ((rd_T24 l0 x12_1).f2).length c413_2]] ?_; (with_reducible refine (kimberliteref03_Out.calls k1 ((rd_T24 l0 x12_1).f0) ((rd_T24 l0 x12_1).f1) _ _ ((rd_T24 l0 x12_1).f2) t414 t415 _ ?side1 ?side2 A8.out).mono ?_); (case side1 => exact nS HR413_2 HB); (case side2 => exact HC413_2.out); rintro e w13 ⟨v416, rfl, ho0, hb⟩; refine ⟨_, rfl, ?_⟩; replace HO_10 := Aside0.mk (Kd.N_elder' (nN HO_10) (Kd.R_base ho0) hb); have HO417 := Aside0.mk (Kd.R_lower ho0 (below_size (nC HB))); replace HB := Aside0.mk (below_step (nC HB) hb); (try clear hb); (try clear hb2); (try clear hk); (try clear hi); (try clear ho0); obtain ⟨Ao15, co15, eo15⟩ := Kd.R_slice HO417.out; subst eo15) | ((with_reducible refine gate_builtin (b := .append) (xs := #[.tmp 35, .tmp 41]) rfl ?_); (try (refine gate_guard (by rfl) ?_; dsimp only)); at_builtin; refine Kd.N_append k78 (w0 := w) w.heap.size rfl (.tmp 35) (.tmp 41) 80 78 (.agg #[(.int .i64 0), (.slice none 0 0)]) 32 rfl Try.underlying80 info78 rfl (by decide) (by omega) u10 x10_1 (⟨t414, t415⟩ : S78) [.int .i64 t414, .slice Ao15 t415.length co15] (fun _ => True) (fun k_ => ((fun _ => True)) k_ ∧ some k_ ≠ (u10 : Value).ownBlock) rfl rfl ?aP (fun _ hk => hk) ?aF ?aO ?aB ?aS ?aL ?_; (case aP => exact (k78_mkF _ _ (⟨t414, t415⟩ : S78) (Kd.R_reads' (Kd.R_mono (ok' := (fun k_ => ((fun _ => True)) k_ ∧ some k_ ≠ (u10 : Value).ownBlock)) (Kd.R_apart' (HO417.out) (Kd.N_typed HO_10.out) (by decide)) (fun k_ hk => ⟨trivial, hk.2⟩))).2.1 (Kd.R_F (Kd.R_mono (ok' := (fun k_ => ((fun _ => True)) k_ ∧ some k_ ≠ (u10 : Value).ownBlock)) (Kd.R_apart' (HO417.out) (Kd.N_typed HO_10.out) (by decide)) (fun k_ hk => ⟨trivial, hk.2⟩))))); (case aB => exact (nC HB)); (case aF => exact (fun _ _ => trivial)); (case aO => exact (by (with_reducible repeat (first | apply Kd.N_alloc | apply Kd.N_drewN | apply Kd.N_drew)); exact Kd.N_mono HO_10.out (fun _ hk => trivial))); (case aS => exact (below_size (nC HB))); (case aL => have := LMc9.out; omega); intro v419 w14 ho hb hg hat; rw [← Ny418.out] at ho; replace HB := Aside0.mk (hb); have HO420 := Aside0.mk (ho); clear HO_10 HO417; clear ho hb hg hat; obtain ⟨Ao16, co16, eo16⟩ := Kd.N_slice HO420.out; subst eo16; have p421 : 0 ≤ (x12_1 : Int) := of_decide_eq_true (by first | (with_reducible assumption) | assumption); have q421 : x12_1 < (y418.length : Int) := of_decide_eq_true (by first | (with_reducible assumption) | assumption); obtain ⟨ad421, A421_1, c421_1, e421, hx421_0, hx421_1, hl421_1, hi421_1⟩ := at_T78 (Kd.N_reads' HO420.out).2.2 x12_1 p421 q421; cases e421; obtain ⟨ce421, hce421, hMe421, hcc421⟩ := Kd.N_get HO420.out z78 x12_1 p421 (by first | exact q421 | exact of_decide_eq_true (by first | (with_reducible assumption) | assumption) | (have e_ := (Kd.N_reads' HO420.out).1; omega)); obtain ⟨ua421_1, uc421_1, rfl, ul421_1, ge421_1⟩ := k78_openF hMe421; have hv421_1 := hcc421 1 _ rfl; rw [add_field _ _ 1 (by omega)] at hv421_1; replace hv421_1 := Option.some.inj (hv421_1.symm.trans hx421_1); injection hv421_1 with hva_ hvn_ hvc_; rw [hva_] at ge421_1; rw [hvc_] at ul421_1; have HL421_1 := Aside0.mk (show Kd.V (Kd.int .i64) 3 _ w.heap.size _ _ ((rd_T78 y418 x12_1).f1) from Kd.V_mk ul421_1 ge421_1); clear hva_ hvn_ hvc_ ge421_1 ul421_1; clear hcc421 hce421; have HR421_1 := Aside0.mk hi421_1; have HC421_1 := Aside0.mk hl421_1; clear hi421_1 hl421_1; replace p421 := eq_true p421; replace q421 := eq_true q421; have p422 : 0 ≤ (x12_1 : Int) := of_decide_eq_true (by first | (with_reducible assumption) | assumption); have q422 : x12_1 < (y418.length : Int) := of_decide_eq_true (by first | (with_reducible assumption) | assumption); obtain ⟨ad422, A422_1, c422_1, e422, hx422_0, hx422_1, hl422_1, hi422_1⟩ := at_T78 (Kd.N_reads' HO420.out).2.2 x12_1 p422 q422; obtain rfl : ad421 = ad422 := (by injection e422); obtain ⟨ce422, hce422, hMe422, hcc422⟩ := Kd.N_get HO420.out z78 x12_1 p422 (by first | exact q422 | exact of_decide_eq_true (by first | (with_reducible assumption) | assumption) | (have e_ := (Kd.N_reads' HO420.out).1; omega)); obtain ⟨ua422_1, uc422_1, rfl, ul422_1, ge422_1⟩ := k78_openF hMe422; have hv422_1 := hcc422 1 _ rfl; rw [add_field _ _ 1 (by omega)] at hv422_1; replace hv422_1 := Option.some.inj (hv422_1.symm.trans hx422_1); injection hv422_1 with hva_ hvn_ hvc_; rw [hva_] at ge422_1; rw [hvc_] at ul422_1; have HL422_1 := Aside0.mk (show Kd.V (Kd.int .i64) 3 _ w.heap.size _ _ ((rd_T78 y418 x12_1).f1) from Kd.V_mk ul422_1 ge422_1); clear hva_ hvn_ hvc_ ge422_1 ul422_1; clear hcc422 hce422; have HR422_1 := Aside0.mk hi422_1; have HC422_1 := Aside0.mk hl422_1; clear hi422_1 hl422_1; replace p422 := eq_true p422; replace q422 := eq_true q422; have ea_ := Option.some.inj (hx421_1.symm.trans hx422_1); injection ea_ with ea_ en_ ec_; subst ea_; subst ec_; clear en_) | ((with_reducible refine gate_callee (f := 65) rfl ?_); refine gL (some 55) Try.func65 #[.agg #[.int .i64 ((rd_T78 y418 x12_1).f0), .slice A421_1 ((rd_T78 y418 x12_1).f1).length c421_1]] ?_; (with_reducible refine (kimberliteref03_Row_To.calls ((rd_T78 y418 x12_1).f0) _ _ ((rd_T78 y418 x12_1).f1) t423 _ ?side1 ?side2 A11.out).mono ?_); (case side1 => exact nT HR422_1); (case side2 => exact HC422_1.out); rintro e w17 ⟨rfl, hb⟩; refine ⟨_, rfl, ?_⟩; replace HO420 := Aside0.mk (Kd.N_below (nN HO420) hb); replace HL421_1 := Aside0.mk (Kd.V_below (nV HL421_1) hb); replace HL422_1 := Aside0.mk (Kd.V_below (nV HL422_1) hb); replace HR421_1 := Aside0.mk (Kd.C_below (nT HR421_1) hb); replace HR422_1 := Aside0.mk (Kd.C_below (nT HR422_1) hb); replace HB := Aside0.mk (below_step (nC HB) hb); (try clear hb); (try clear hb2); (try clear hk); (try clear hi)))
               go_roundg k1
               case measure => have := HK1.out; omega
               case rel => exact ⟨(wrap64 (x8_1 + ((rd_T78 y418 x12_1).f0))), (wrap64 (x9_1 + t423)), (y418), (wrap64 (x12_1 + 1)), (by first | rfl | (simp; done) | (simp [*]; done)), (by first | rfl | (simp; done) | (simp [*]; done)), (by first | rfl | (simp; done) | (simp [*]; done)), H', ⟨by have := HK1.out; omega⟩, ⟨nN HO420⟩, ⟨nC HB⟩⟩
             · rw [if_neg c10] at H; exact absurd H (by simp)
           · rw [if_neg c9] at H; exact absurd H (by simp)
         · replace c7 := Bool.eq_false_iff.mpr c7; subst c7; replace H : (some (([] : List Int), 0, 0, 2)) = some (r1, r2, r3, r4) := by rw [if_neg (show ¬ (false = true) by decide)] at H; exact H
           simp only [Option.some.injEq, Prod.mk.injEq] at H; obtain ⟨rfl, rfl, rfl, rfl⟩ := H; have p411 : 0 ≤ (x12_1 : Int) := of_decide_eq_true (by first | (with_reducible assumption) | assumption); have q411 : x12_1 < (l0.length : Int) := of_decide_eq_true (by first | (with_reducible assumption) | assumption); obtain ⟨ad411, A411_2, c411_2, e411, hx411_0, hx411_1, hx411_2, hl411_2, hi411_2⟩ := at_T24 HR0.out x12_1 p411 q411
           cases e411
           replace hx411_0 := (HB.out.cell (World.block_lt_of_cell? w _ hx411_0)).trans hx411_0; replace hx411_1 := (HB.out.cell (World.block_lt_of_cell? w _ hx411_1)).trans hx411_1; replace hx411_2 := (HB.out.cell (World.block_lt_of_cell? w _ hx411_2)).trans hx411_2; have HR411_2 := Aside0.mk hi411_2; have HC411_2 := Aside0.mk hl411_2; clear hi411_2 hl411_2; replace p411 := eq_true p411; replace q411 := eq_true q411; go_wp2_with (first | ((with_reducible refine gate_callee (f := 30) rfl ?_); refine gL (some 33) Try.func30 #[.agg #[.int .i64 ((rd_T24 l0 x12_1).f0), .int .i64 ((rd_T24 l0 x12_1).f1), .slice A411_2 ((rd_T24 l0 x12_1).f2).length c411_2]] ?_; (with_reducible refine (kimberliteref03_Valid.calls k1 ((rd_T24 l0 x12_1).f0) ((rd_T24 l0 x12_1).f1) _ _ ((rd_T24 l0 x12_1).f2) false _ ?side1 ?side2 A6.out).mono ?_); (case side1 => exact nS HR411_2 HB); (case side2 => exact HC411_2.out); rintro e w18 ⟨rfl, hb⟩; refine ⟨_, rfl, ?_⟩; replace HO_10 := Aside0.mk (Kd.N_below (nN HO_10) hb); replace HB := Aside0.mk (below_step (nC HB) hb); (try clear hb); (try clear hb2); (try clear hk); (try clear hi)))
           refine bodyPost_ret (results_list (rs := [.tmp 4, .tmp 5, .tmp 6, .tmp 7]) rfl (by simp) (.tmp (.tmp (.tmp (.tmp .nil))))) rfl ?_; exact ⟨_, by first | rfl | (simp [errW_none, errW_some] <;> rfl) | (simp [*, errW_none, errW_some] <;> rfl), by first | exact Kd.R_nil _ _ _ _ _ | exact Kd.N_nil _ _ _ _ _ | exact Kd.V_nil _ _ _ _ _ | exact Kd.Q_nil _ _ _ _ _ | exact Kd.S_nil _ _ _ _ _, nC HB⟩
       · rw [if_neg c5] at H; exact absurd H (by simp)
     · rw [if_neg c4] at H; have c4b0 : decide (x12_1 < (l0.length : Int)) = false := decide_eq_false c4; clear c4
       by_cases c19 : (l0.length : Int) = 0
       · rw [if_pos c19] at H; have c19b0 : ((l0.length : Int) == 0) = true := beq_iff_eq.mpr c19; have c19b1 : ((l0.length : Int) != 0) = false := bne_eq_false_iff_eq.mpr c19; clear c19; simp only [Option.some.injEq, Prod.mk.injEq] at H; obtain ⟨rfl, rfl, rfl, rfl⟩ := H; go_wp2
         refine bodyPost_ret (results_list (rs := [.tmp 4, .tmp 5, .tmp 6, .tmp 7]) rfl (by simp) (.tmp (.tmp (.tmp (.tmp .nil))))) rfl ?_; exact ⟨_, by first | rfl | (simp [errW_none, errW_some] <;> rfl) | (simp [*, errW_none, errW_some] <;> rfl), by first | exact Kd.R_nil _ _ _ _ _ | exact Kd.N_nil _ _ _ _ _ | exact Kd.V_nil _ _ _ _ _ | exact Kd.Q_nil _ _ _ _ _ | exact Kd.S_nil _ _ _ _ _, nC HB⟩
       · rw [if_neg c19] at H; have c19b0 : ((l0.length : Int) == 0) = false := beq_eq_false_iff_ne.mpr c19; have c19b1 : ((l0.length : Int) != 0) = true := bne_iff_ne.mpr c19; have c19b2 : ¬ (l0 = []) := fun h_ => c19 (by rw [h_]; rfl)
         have HC20 := Aside0.mk H; clear H; go_upto_region 15 with (fail)
         go_cut [67] (fun v67 wc => ∃ (kq : Nat) (x67_19 : Bool), v67 = .bool x67_19 ∧ Aside0 (kimberliteref03_Split.j1 kq l0 a1 x10_1 ([] : List (S78)) x67_19 = some (r1, r2, r3, r4)) ∧ Aside0 (kq ≤ k1) ∧ Aside0 (Kd.N k78 78 wc w.heap.size (fun k_ => some k_ ≠ ((.slice none 0 0) : Value).ownBlock) u10 x10_1) ∧ Aside0 (Kd.N k78 78 wc w.heap.size (fun _ => True) (.slice none 0 0) ([] : List (S78))) ∧ Aside0 (Below w.heap.size w wc))
         case first =>
          as_aux_lemma =>
          have H := HC20.out; clear HC20
          by_cases c21 : a1 < x8_1
          · rw [if_pos c21] at H; have c21b0 : decide (a1 < x8_1) = true := decide_eq_true c21; clear c21; (first | rw [c21b0] | (simp only [i64_w, i32_w]; rw [c21b0]) | skip); have H' := Aside0.mk H; clear H; go_wp2
            go_meet
            case rel => exact ⟨_, (true), (by first | rfl | (simp; done) | (simp [*]; done)), H', ⟨by have := HK1.out; first | omega | exact Nat.le_refl _⟩, ⟨by (with_reducible repeat (first | apply Kd.N_alloc | apply Kd.N_drewN | apply Kd.N_drew)); exact Kd.N_mono HO_10.out (fun _ hk => (by simp [Value.ownBlock]))⟩, ⟨by first | exact Kd.S_nil _ _ _ _ _ | exact Kd.N_nil _ _ _ _ _ | exact Kd.V_nil _ _ _ _ _ | exact Kd.Q_nil _ _ _ _ _ | exact Kd.R_nil _ _ _ _ _⟩, ⟨nC HB⟩⟩
          · rw [if_neg c21] at H; have c21b0 : decide (a1 < x8_1) = false := decide_eq_false c21; clear c21; (first | rw [c21b0] | (simp only [i64_w, i32_w]; rw [c21b0]) | skip); have H' := Aside0.mk H; clear H; go_wp2
            go_meet
            case rel => exact ⟨_, (decide (a1 > x9_1)), (by first | rfl | (simp; done) | (simp [*]; done)), H', ⟨by have := HK1.out; first | omega | exact Nat.le_refl _⟩, ⟨by (with_reducible repeat (first | apply Kd.N_alloc | apply Kd.N_drewN | apply Kd.N_drew)); exact Kd.N_mono HO_10.out (fun _ hk => (by simp [Value.ownBlock]))⟩, ⟨by first | exact Kd.S_nil _ _ _ _ _ | exact Kd.N_nil _ _ _ _ _ | exact Kd.V_nil _ _ _ _ _ | exact Kd.Q_nil _ _ _ _ _ | exact Kd.R_nil _ _ _ _ _⟩, ⟨nC HB⟩⟩
         case rest =>
          as_aux_lemma =>
          clear HC20; obtain ⟨kq, x67_19, rfl, HA, HJ19, HO_10, HO_11, HB⟩ := hcut
          cases kq with
          | zero => exact absurd HA.out (by simp [kimberliteref03_Split.j1])
          | succ kj19 =>
           have H := HA.out; clear HA; simp only [kimberliteref03_Split.j1] at H
           by_cases c22 : x67_19 = true
           · subst c22; replace H : (some (([] : List Int), 0, 0, 10)) = some (r1, r2, r3, r4) := by rw [if_pos rfl] at H; exact H
             simp only [Option.some.injEq, Prod.mk.injEq] at H; obtain ⟨rfl, rfl, rfl, rfl⟩ := H; go_wp2
             refine bodyPost_ret (results_list (rs := [.tmp 4, .tmp 5, .tmp 6, .tmp 7]) rfl (by simp) (.tmp (.tmp (.tmp (.tmp .nil))))) rfl ?_; exact ⟨_, by first | rfl | (simp [errW_none, errW_some] <;> rfl) | (simp [*, errW_none, errW_some] <;> rfl), by first | exact Kd.R_nil _ _ _ _ _ | exact Kd.N_nil _ _ _ _ _ | exact Kd.V_nil _ _ _ _ _ | exact Kd.Q_nil _ _ _ _ _ | exact Kd.S_nil _ _ _ _ _, nC HB⟩
           · replace c22 := Bool.eq_false_iff.mpr c22; subst c22; replace H : (if ([] : List (S78)).length + x10_1.length < 4398046511104 then (kimberliteref03_Split.l1 kj19 l0 a1 x10_1 (([] : List (S78)) ++ x10_1) (wrap64 ((l0.length : Int) - 2))) else (none)) = some (r1, r2, r3, r4) := by rw [if_neg (show ¬ (false = true) by decide)] at H; exact H
             by_cases c23 : ([] : List (S78)).length + x10_1.length < 4398046511104
             · rw [if_pos c23] at H; have LMc23 := Aside0.mk c23; clear c23; obtain ⟨y424, hy424⟩ : ∃ y_ : List (S78), y_ = (([] : List (S78)) ++ x10_1) := ⟨_, rfl⟩; replace H : (kimberliteref03_Split.l1 kj19 l0 a1 x10_1 y424 (wrap64 ((l0.length : Int) - 2))) = some (r1, r2, r3, r4) := by first | (rw [hy424]; with_reducible exact H) | (have H2_ := (Option.bind_some _ _).symm.trans H; rw [hy424]; with_reducible exact H2_) | (have H2_ := (Option.bind_some _ _).symm.trans H; with_reducible exact H2_) | with_reducible exact H | (rw [hy424]; exact H) | exact H
               have Ny424 := Aside0.mk hy424; clear hy424; have H' := Aside0.mk H; clear H; obtain ⟨Ao25, co25, eo25⟩ := Kd.N_slice HO_10.out; subst eo25; go_wp2_with (first | ((with_reducible refine gate_builtin (b := .append) (xs := #[.tmp 68, .tmp 69]) rfl ?_); (try (refine gate_guard (by rfl) ?_; dsimp only)); at_builtin; refine Kd.N_append_rows k78 (w0 := w) w.heap.size rfl (.tmp 68) (.tmp 69) 80 78 (.agg #[(.int .i64 0), (.slice none 0 0)]) 32 rfl Try.underlying80 info78 rfl (by decide) (by omega) (.slice none 0 0) ([] : List (S78)) x10_1 _ _ _ (fun _ => True) (fun k_ => ((fun _ => True)) k_ ∧ some k_ ≠ (.slice none 0 0 : Value).ownBlock) rfl rfl ?aO ?aR (fun _ hk => hk) ?aF ?aB ?aS ?aL ?_; (case aR => exact (by skip; exact Kd.N_F (Kd.N_mono (ok' := (fun k_ => ((fun _ => True)) k_ ∧ some k_ ≠ (.slice none 0 0 : Value).ownBlock)) (HO_10.out) (fun k_ hk => ⟨trivial, hk⟩)))); (case aB => exact (nC HB)); (case aF => exact (fun _ _ => trivial)); (case aO => exact (nN HO_11)); (case aS => exact (below_size (nC HB))); (case aL => have := LMc23.out; omega); intro v425 w24 ho hb hg hat; rw [← Ny424.out] at ho; replace HO_10 := Aside0.mk (Kd.N_afterv (ok := (fun _ => True)) (by (with_reducible repeat (first | apply Kd.N_alloc | apply Kd.N_drewN | apply Kd.N_drew)); exact Kd.N_mono HO_10.out (fun _ hk => ⟨trivial, hk⟩)) hg hat); replace HB := Aside0.mk (hb); have HO426 := Aside0.mk (ho); clear HO_11; clear ho hb hg hat))
               go_loopg [13] kj19 (fun kq v13 w' => ∃ (x11_3 : List (S78)) (x13_3 : Int), v13 = .int .i64 x13_3 ∧ Aside0 (kimberliteref03_Split.l1 kq l0 a1 x10_1 x11_3 x13_3 = some (r1, r2, r3, r4)) ∧ Aside0 (kq ≤ kj19) ∧ Aside0 (Kd.N k78 78 w' w.heap.size (fun k_ => some k_ ≠ (v425 : Value).ownBlock) (.slice Ao25 x10_1.length co25) x10_1) ∧ Aside0 (Kd.N k78 78 w' w.heap.size (fun _ => True) v425 x11_3) ∧ Aside0 (Below w.heap.size w w'))
               case atStart => exact ⟨(y424), (wrap64 ((l0.length : Int) - 2)), (by first | rfl | (simp; done) | (simp [*]; done)), H', ⟨Nat.le_refl _⟩, ⟨by (with_reducible repeat (first | apply Kd.N_alloc | apply Kd.N_drewN | apply Kd.N_drew)); exact Kd.N_mono HO_10.out (fun _ hk => hk.2)⟩, ⟨nN HO426⟩, ⟨nC HB⟩⟩
               case round =>
                as_aux_lemma =>
                clear H'; obtain ⟨x11_3, x13_3, rfl, HA, HK3, HO_10, HO_11, HB⟩ := hrel
                cases gk with
                | zero => exact absurd HA.out (by simp [kimberliteref03_Split.l1])
                | succ k3 =>
                 have H := HA.out; clear HA; simp only [kimberliteref03_Split.l1] at H
                 by_cases c26 : x13_3 ≥ 0
                 · rw [if_pos c26] at H; have c26b0 : decide (0 ≤ x13_3) = true := decide_eq_true c26; clear c26
                   by_cases c27 : 0 ≤ x13_3
                   · rw [if_pos c27] at H; have c27b0 : decide (0 ≤ x13_3) = true := decide_eq_true c27; clear c27
                     by_cases c28 : x13_3 < (x10_1.length : Int)
                     · rw [if_pos c28] at H; have c28b0 : decide (x13_3 < (x10_1.length : Int)) = true := decide_eq_true c28; clear c28; obtain ⟨ji29, hji29⟩ : ∃ j_ : Int, (wrap64 (x13_3 + 1)) = j_ := ⟨_, rfl⟩; replace H : (if 0 ≤ (ji29) then (if (ji29) < (x11_3.length : Int) then ((kimberliteref03_Joined.f k3 ((rd_T78 x10_1 x13_3).f0) ((rd_T78 x10_1 x13_3).f1) ((rd_T78 x11_3 (ji29)).f0) ((rd_T78 x11_3 (ji29)).f1)).bind fun bt429 => (if x13_3 < (x11_3.length : Int) then (kimberliteref03_Split.l1 k3 l0 a1 x10_1 (x11_3.set (x13_3 : Int).toNat (⟨bt429.1, bt429.2⟩ : S78)) (wrap64 (x13_3 - 1))) else (none))) else (none)) else (none)) = some (r1, r2, r3, r4) := by first | (rw [hji29] at H; exact H) | (simp only [hji29] at H ⊢; exact H)
                       have hji29w : (IntKind.i64.wrap (x13_3 + 1)) = ji29 := (i64_w _).trans hji29
                       by_cases c30 : 0 ≤ (ji29)
                       · rw [if_pos c30] at H; have c30b0 : decide (0 ≤ (ji29)) = true := decide_eq_true c30; clear c30
                         by_cases c31 : (ji29) < (x11_3.length : Int)
                         · rw [if_pos c31] at H; have c31b0 : decide ((ji29) < (x11_3.length : Int)) = true := decide_eq_true c31; clear c31; replace H := Option.bind_eq_some_iff.mp H; obtain ⟨⟨t429, t430⟩, A320, H⟩ := H; replace H : (if x13_3 < (x11_3.length : Int) then (kimberliteref03_Split.l1 k3 l0 a1 x10_1 (x11_3.set (x13_3 : Int).toNat (⟨t429, t430⟩ : S78)) (wrap64 (x13_3 - 1))) else (none)) = some (r1, r2, r3, r4) := H; have A32 := Aside0.mk A320; clear A320
                           by_cases c33 : x13_3 < (x11_3.length : Int)
                           · rw [if_pos c33] at H; have c33b0 : decide (x13_3 < (x11_3.length : Int)) = true := decide_eq_true c33; clear c33; obtain ⟨y433, hy433⟩ : ∃ y_ : List (S78), y_ = (x11_3.set (x13_3 : Int).toNat (⟨t429, t430⟩ : S78)) := ⟨_, rfl⟩; replace H : (kimberliteref03_Split.l1 k3 l0 a1 x10_1 y433 (wrap64 (x13_3 - 1))) = some (r1, r2, r3, r4) := by first | (rw [hy433]; with_reducible exact H) | (have H2_ := (Option.bind_some _ _).symm.trans H; rw [hy433]; with_reducible exact H2_) | (have H2_ := (Option.bind_some _ _).symm.trans H; with_reducible exact H2_) | with_reducible exact H | (rw [hy433]; exact H) | exact H
                             have Ny433 := Aside0.mk hy433; clear hy433; have H' := Aside0.mk H; clear H; try go_wp2
                             replace HO_10 := Aside0.mk (Kd.N_drew HO_10.out); replace HO_11 := Aside0.mk (Kd.N_drew HO_11.out); replace HB := Aside0.mk (below_drew1 HB.out); have p427 : 0 ≤ (x13_3 : Int) := of_decide_eq_true (by first | (with_reducible assumption) | assumption); have q427 : x13_3 < (x10_1.length : Int) := of_decide_eq_true (by first | (with_reducible assumption) | assumption); obtain ⟨ad427, A427_1, c427_1, e427, hx427_0, hx427_1, hl427_1, hi427_1⟩ := at_T78 (Kd.N_reads' HO_10.out).2.2 x13_3 p427 q427
                             cases e427
                             obtain ⟨ce427, hce427, hMe427, hcc427⟩ := Kd.N_get HO_10.out z78 x13_3 p427 (by first | exact q427 | exact of_decide_eq_true (by first | (with_reducible assumption) | assumption) | (have e_ := (Kd.N_reads' HO_10.out).1; omega)); obtain ⟨ua427_1, uc427_1, rfl, ul427_1, ge427_1⟩ := k78_openF hMe427; have hv427_1 := hcc427 1 _ rfl; rw [add_field _ _ 1 (by omega)] at hv427_1; replace hv427_1 := Option.some.inj (hv427_1.symm.trans hx427_1); injection hv427_1 with hva_ hvn_ hvc_
                             rw [hva_] at ge427_1; rw [hvc_] at ul427_1; have HL427_1 := Aside0.mk (show Kd.V (Kd.int .i64) 3 _ w.heap.size _ _ ((rd_T78 x10_1 x13_3).f1) from Kd.V_mk ul427_1 ge427_1); clear hva_ hvn_ hvc_ ge427_1 ul427_1; clear hcc427 hce427; have HR427_1 := Aside0.mk hi427_1; have HC427_1 := Aside0.mk hl427_1; clear hi427_1 hl427_1; replace p427 := eq_true p427; replace q427 := eq_true q427; obtain ⟨Ao36, co36, eo36⟩ := Kd.N_slice HO_11.out; (first | subst eo36 | (injection eo36 with f1_ f2_ f3_; have f4_ := f1_.symm; have f5_ := f3_.symm; clear f1_ f2_ f3_; subst f4_; subst f5_)); have p428 : 0 ≤ ((ji29) : Int) := of_decide_eq_true (by first | (with_reducible assumption) | assumption); have q428 : (ji29) < (x11_3.length : Int) := of_decide_eq_true (by first | (with_reducible assumption) | assumption); obtain ⟨ad428, A428_1, c428_1, e428, hx428_0, hx428_1, hl428_1, hi428_1⟩ := at_T78 (Kd.N_reads' HO_11.out).2.2 (ji29) p428 q428
                             cases e428
                             obtain ⟨ce428, hce428, hMe428, hcc428⟩ := Kd.N_get HO_11.out z78 (ji29) p428 (by first | exact q428 | exact of_decide_eq_true (by first | (with_reducible assumption) | assumption) | (have e_ := (Kd.N_reads' HO_11.out).1; omega)); obtain ⟨ua428_1, uc428_1, rfl, ul428_1, ge428_1⟩ := k78_openF hMe428; have hv428_1 := hcc428 1 _ rfl; rw [add_field _ _ 1 (by omega)] at hv428_1; replace hv428_1 := Option.some.inj (hv428_1.symm.trans hx428_1); injection hv428_1 with hva_ hvn_ hvc_
                             rw [hva_] at ge428_1; rw [hvc_] at ul428_1; have HL428_1 := Aside0.mk (show Kd.V (Kd.int .i64) 3 _ w.heap.size _ _ ((rd_T78 x11_3 (ji29)).f1) from Kd.V_mk ul428_1 ge428_1); clear hva_ hvn_ hvc_ ge428_1 ul428_1; clear hcc428 hce428; have HR428_1 := Aside0.mk hi428_1; have HC428_1 := Aside0.mk hl428_1; clear hi428_1 hl428_1; replace p428 := eq_true p428; replace q428 := eq_true q428; refine start_ (n := 14) (S := fun w' => w'.cell? (ad427.add ((x13_3).toNat * 2)) = some (.int .i64 ((rd_T78 x10_1 x13_3).f0)) ∧ w'.cell? ⟨(ad427.add ((x13_3).toNat * 2)).block, (ad427.add ((x13_3).toNat * 2)).off + 1, none⟩ = some (.slice A427_1 ((rd_T78 x10_1 x13_3).f1).length c427_1) ∧ w'.cell? (ad428.add (((ji29)).toNat * 2)) = some (.int .i64 ((rd_T78 x11_3 (ji29)).f0)) ∧ w'.cell? ⟨(ad428.add (((ji29)).toNat * 2)).block, (ad428.add (((ji29)).toNat * 2)).off + 1, none⟩ = some (.slice A428_1 ((rd_T78 x11_3 (ji29)).f1).length c428_1)) (ds := [13]) #[false, false, false, false, false, false, false, false, false, false, false, false, false, false] (by kernel_rfl) rfl rfl ⟨hx427_0, hx427_1, hx428_0, hx428_1⟩ (fun hHeld => ?_); refine with_tabW kimberliteref03_Split.tab21 kimberliteref03_Split.bits21 (fun HT_ HW_ => ?_); generalize wr.drew = w35 at HO_10 HO_11 HB HL427_1 HL428_1 HR427_1 HR428_1 hx427_0 hx427_1 hx428_0 hx428_1 hHeld ⊢; refine pure_ (i := 0) (N := some 78) (v := ?_) (a' := ?_) #[true, false, false, false, false, false, false, false, false, false, false, false, false, false] rfl rfl (any_of HT_.out (by kernel_rfl)) (fun _ _ _ h => h) (Or.inl ⟨by rfl, ?_⟩) ?_ ?_; rotate_left
                             · intro w'; go_simp
                               with_reducible rfl
                             rotate_left
                             · simp only [Act.put, zs1, zs2, zs3, i64_w, i32_w]; rfl
                             refine pure_ (i := 1) (N := some 79) (v := ?_) (a' := ?_) #[true, true, false, false, false, false, false, false, false, false, false, false, false, false] rfl rfl (any_of HT_.out (by kernel_rfl)) (fun _ _ _ h => h) (Or.inl ⟨by rfl, ?_⟩) ?_ ?_; rotate_left
                             · intro w'; go_simp
                               with_reducible rfl
                             rotate_left
                             · simp only [Act.put, zs1, zs2, zs3, i64_w, i32_w]; rfl
                             refine pure_ (i := 2) (N := some 80) (v := ?_) (a' := ?_) #[true, true, true, false, false, false, false, false, false, false, false, false, false, false] rfl rfl (any_of HT_.out (by kernel_rfl)) (fun _ _ _ h => h) (Or.inl ⟨by rfl, ?_⟩) ?_ ?_; rotate_left
                             · intro w'; go_simp
                               with_reducible rfl
                             rotate_left
                             · simp only [Act.put, zs1, zs2, zs3, i64_w, i32_w]; rfl
                             refine pure_ (i := 3) (N := some 81) (v := ?_) (a' := ?_) #[true, true, true, true, false, false, false, false, false, false, false, false, false, false] rfl rfl (any_of HT_.out (by kernel_rfl)) (fun _ _ _ h => h) (Or.inl ⟨by rfl, ?_⟩) ?_ ?_; rotate_left
                             · intro w'; go_simp
                               with_reducible rfl
                             rotate_left
                             · simp only [Act.put, zs1, zs2, zs3, i64_w, i32_w]; rfl
                             refine pure_ (i := 4) (N := some 82) (v := ?_) (a' := ?_) #[true, true, true, true, true, false, false, false, false, false, false, false, false, false] rfl rfl (any_of HT_.out (by kernel_rfl)) (fun _ _ _ h => h) (Or.inl ⟨by rfl, ?_⟩) ?_ ?_; rotate_left
                             · intro w'; go_simp
                               with_reducible rfl
                             rotate_left
                             · simp only [Act.put, zs1, zs2, zs3, i64_w, i32_w]; rfl
                             refine pure_ (i := 6) (N := some 84) (v := ?_) (a' := ?_) #[true, true, true, true, true, false, true, false, false, false, false, false, false, false] rfl rfl (any_of HT_.out (by kernel_rfl)) (fun _ _ _ h => h) (Or.inl ⟨by rfl, ?_⟩) ?_ ?_; rotate_left
                             · intro w'; go_simp
                               with_reducible rfl
                             rotate_left
                             · simp only [Act.put, zs1, zs2, zs3, i64_w, i32_w]; rfl
                             refine pure_ (i := 7) (N := some 85) (v := ?_) (a' := ?_) #[true, true, true, true, true, false, true, true, false, false, false, false, false, false] rfl rfl (any_of HT_.out (by kernel_rfl)) (fun _ _ _ h => h) (Or.inl ⟨by rfl, ?_⟩) ?_ ?_; rotate_left
                             · intro w'; go_simp
                               with_reducible rfl
                             rotate_left
                             · simp only [Act.put, zs1, zs2, zs3, i64_w, i32_w]; rfl
                             refine pure_ (i := 8) (N := some 86) (v := ?_) (a' := ?_) #[true, true, true, true, true, false, true, true, true, false, false, false, false, false] rfl rfl (any_of HT_.out (by kernel_rfl)) (fun _ _ _ h => h) (Or.inl ⟨by rfl, ?_⟩) ?_ ?_; rotate_left
                             · intro w'; go_simp
                               with_reducible rfl
                             rotate_left
                             · simp only [Act.put, zs1, zs2, zs3, i64_w, i32_w]; rfl
                             refine pure_ (i := 9) (N := some 87) (v := ?_) (a' := ?_) #[true, true, true, true, true, false, true, true, true, true, false, false, false, false] rfl rfl (any_of HT_.out (by kernel_rfl)) (fun _ _ _ h => h) (Or.inl ⟨by rfl, ?_⟩) ?_ ?_; rotate_left
                             · intro w'; go_simp
                               with_reducible rfl
                             rotate_left
                             · simp only [Act.put, zs1, zs2, zs3, i64_w, i32_w]; rfl
                             refine take_ (i := 5) (N := some 83) (v := ?_) (a' := ?_) #[true, true, true, true, true, true, true, true, true, true, false, false, false, false] rfl rfl (take_ofW HT_.out HW_.out (by kernel_rfl)) (fun _ _ _ h => h) (Or.inl ⟨by rfl, ?_⟩) hHeld ?_ ?_; rotate_left
                             · rintro w' ⟨s0, zs1, zs2, zs3⟩; go_simp
                               with_reducible rfl
                             rotate_left
                             · simp only [Act.put, zs1, zs2, zs3, i64_w, i32_w]; rfl
                             refine take_ (i := 10) (N := some 88) (v := ?_) (a' := ?_) #[true, true, true, true, true, true, true, true, true, true, true, false, false, false] rfl rfl (take_ofW HT_.out HW_.out (by kernel_rfl)) (fun _ _ _ h => h) (Or.inl ⟨by rfl, ?_⟩) hHeld ?_ ?_; rotate_left
                             · rintro w' ⟨s0, zs1, zs2, zs3⟩; go_simp
                               with_reducible rfl
                             rotate_left
                             · simp only [Act.put, zs1, zs2, zs3, i64_w, i32_w]; rfl
                             refine one_ (i := 11) (N := some 89) #[true, true, true, true, true, true, true, true, true, true, true, true, false, false] rfl rfl (one_of HT_.out (by kernel_rfl)) (by decide) (fun K hK => ?_); refine goes_ Try.func66 (by kernel_rfl) rfl #[.agg #[.int .i64 ((rd_T78 x10_1 x13_3).f0), .slice A427_1 ((rd_T78 x10_1 x13_3).f1).length c427_1], .agg #[.int .i64 ((rd_T78 x11_3 (ji29)).f0), .slice A428_1 ((rd_T78 x11_3 (ji29)).f1).length c428_1]] (by rfl) rfl rfl (by (try simp only [List.map_toArray, List.map_cons, List.map_nil]); first | done | (simp only [hji29]; rfl) | rfl | (simp only [List.length_drop, List.length_take]; rfl)) ?_
                             with_reducible refine (kimberliteref03_Joined.calls k3 ((rd_T78 x10_1 x13_3).f0) _ _ ((rd_T78 x10_1 x13_3).f1) ((rd_T78 x11_3 (ji29)).f0) _ _ ((rd_T78 x11_3 (ji29)).f1) t429 t430 _ ?side1 ?side2 ?side3 ?side4 A32.out).mono ?_
                             (case side1 => exact nT HR427_1); (case side2 => exact HC427_1.out); (case side3 => exact nT HR428_1); (case side4 => exact HC428_1.out); rintro e w37 ⟨v431, rfl, ho0, hb⟩; have HS0_ := (hb.cell (World.block_lt_of_cell? _ _ (hHeld.1))).trans (hHeld.1); have HS1_ := (hb.cell (World.block_lt_of_cell? _ _ (hHeld.2.1))).trans (hHeld.2.1); have HS2_ := (hb.cell (World.block_lt_of_cell? _ _ (hHeld.2.2.1))).trans (hHeld.2.2.1); have HS3_ := (hb.cell (World.block_lt_of_cell? _ _ (hHeld.2.2.2))).trans (hHeld.2.2.2); refine ⟨_, rfl, ?_⟩; replace HO_10 := Aside0.mk (Kd.N_elder' (nN HO_10) (Kd.R_base ho0) hb); replace HO_11 := Aside0.mk (Kd.N_elder' (nN HO_11) (Kd.R_base ho0) hb); replace HL427_1 := Aside0.mk (Kd.V_elder' (nV HL427_1) (Kd.R_base ho0) hb); replace HL428_1 := Aside0.mk (Kd.V_elder' (nV HL428_1) (Kd.R_base ho0) hb); have HO432 := Aside0.mk (Kd.R_lower ho0 (below_size (nC HB))); replace HR427_1 := Aside0.mk (Kd.C_below (nT HR427_1) hb); replace HR428_1 := Aside0.mk (Kd.C_below (nT HR428_1) hb); replace HB := Aside0.mk (below_step (nC HB) hb); (try clear hb); (try clear hb2); (try clear hk); (try clear hi); (try clear ho0); obtain ⟨A432_, c432_, e432_⟩ := Kd.R_slice HO432.out; subst e432_; have p34 : 0 ≤ (x13_3 : Int) := of_decide_eq_true (by first | (with_reducible assumption) | assumption); have q34 : (x13_3 : Int) < ((x11_3.length : Int) : Int) := of_decide_eq_true (by first | (with_reducible assumption) | assumption); obtain ⟨go34, co34, eo34, gb34, gl34, cl34, HG34⟩ := Kd.N_form HO_11.out (by omega); (first | cases eo34 | (injection eo34 with ea_ en_ ec_; (first | subst ea_ | (injection ea_ with ea_; subst ea_)); subst ec_; clear en_)); have GB34 := Aside0.mk gb34; have GG34 := Aside0.mk HG34; clear gb34 gl34 HG34; (first | simp only [add_plain] at hx428_0 | skip); (first | simp only [add_plain] at hx428_1 | skip); obtain ⟨ce34, hcl34, hM34, hcc34, hfr34⟩ := Kd.N_elem HO_11.out z78 (x13_3 : Int) p34 q34; obtain ⟨ua34_1, uc34_1, rfl, ul34_1, ge34_1⟩ := k78_openF hM34; have hx34_0 : World.cell? _ ⟨go34, (x13_3 : Int).toNat * 2, none⟩ = some (.int .i64 ((rd_T78 x11_3 x13_3).f0)) := hcc34 0 _ rfl; have hx34_1 : World.cell? _ ⟨go34, (x13_3 : Int).toNat * 2 + 1, none⟩ = some (.slice ua34_1 ((rd_T78 x11_3 x13_3).f1).length uc34_1) := hcc34 1 _ rfl; have hf34_0 : World.frozen? _ ⟨go34, (x13_3 : Int).toNat * 2, none⟩ = false := hfr34 0; have hf34_1 : World.frozen? _ ⟨go34, (x13_3 : Int).toNat * 2 + 1, none⟩ = false := hfr34 1; clear hcl34 hcc34 hfr34 hM34; replace p34 := eq_true p34; replace q34 := eq_true q34; have HX38 := Aside0.mk (show Kd.N k78 78 _ w.heap.size (fun k_ => some k_ ≠ ((.slice A432_ t430.length c432_) : Value).ownBlock) (.slice (some ⟨go34, 0, none⟩) x11_3.length co36) x11_3 from (Kd.N_mono (HO_11.out) (fun k_ hk => hk.2))); replace HX38 := Aside0.mk (show Kd.N k78 78 _ w.heap.size (fun _ => True) (.slice (some ⟨go34, 0, none⟩) x11_3.length co36) x11_3 from Kd.N_mono HX38.out (fun k_ hk => trivial)); obtain ⟨ce38, hcl38, hM38, hcc38, hfr38⟩ := Kd.N_elem HX38.out z78 (x13_3 : Int) (of_decide_eq_true (by first | (with_reducible assumption) | assumption)) (by have h_ : (x13_3 : Int) < ((x11_3.length : Int) : Int) := of_decide_eq_true (by first | (with_reducible assumption) | assumption); first | exact h_ | (have e_ := (Kd.N_reads' HO_11.out).1; omega) | simpa using h_); obtain ⟨ua38_1, uc38_1, rfl, ul38_1, ge38_1⟩ := k78_openF hM38; have HP38 := (Kd.N_seg HX38.out (x13_3 : Int) (of_decide_eq_true (by first | (with_reducible assumption) | assumption)) (by have h_ : (x13_3 : Int) < ((x11_3.length : Int) : Int) := of_decide_eq_true (by first | (with_reducible assumption) | assumption); first | exact h_ | (have e_ := (Kd.N_reads' HO_11.out).1; omega) | simpa using h_) (seg := [.int .i64 t429, (.slice A432_ t430.length c432_)]) (j := 0) hcl38 hcc38 (show 2 ≤ 2 from by decide) (x' := (⟨t429, t430⟩ : S78)) (k78_mkF _ _ (⟨t429, t430⟩ : S78) (Kd.R_reads' (Kd.R_mono (ok' := (fun k_ => ((fun _ => True)) k_ ∧ k_ ≠ go34)) (Kd.R_apart' (HO432.out) (Kd.N_typed HO_11.out) (by decide)) (fun k_ hk => ⟨trivial, fun e_ => (hk.2) (by rw [e_]; rfl)⟩))).2.1 (Kd.R_F (Kd.R_mono (ok' := (fun k_ => ((fun _ => True)) k_ ∧ k_ ≠ go34)) (Kd.R_apart' (HO432.out) (Kd.N_typed HO_11.out) (by decide)) (fun k_ hk => ⟨trivial, fun e_ => (hk.2) (by rw [e_]; rfl)⟩)))) (fun _ hk => hk)).1
                             rw [← Ny433.out] at HP38; have HQ38 := Aside0.mk HP38; clear hcl38 hcc38 hfr38 hM38 HP38; refine hK.out _ _ ⟨HS0_, HS1_, HS2_, HS3_⟩ (fun hHeld => ?_); clear hK K; refine norm_ (a' := ?_) ?_ ?_; rotate_left
                             · show Act.put _ (some 89) _ = _; simp only [Act.put, zs1, zs2, zs3, i64_w, i32_w]; rfl
                             refine pure_ (i := 12) (N := some 90) (v := ?_) (a' := ?_) #[true, true, true, true, true, true, true, true, true, true, true, true, true, false] rfl rfl (any_of HT_.out (by kernel_rfl)) (fun _ _ _ h => h) (Or.inl ⟨by rfl, ?_⟩) ?_ ?_; rotate_left
                             · intro w'; go_simp
                               with_reducible rfl
                             rotate_left
                             · simp only [Act.put, zs1, zs2, zs3, i64_w, i32_w]; rfl
                             refine last_ (i := 13) (N := none) #[true, true, true, true, true, true, true, true, true, true, true, true, true, true] rfl rfl (one_of HT_.out (by kernel_rfl)) (by decide) (fun K hK => ?_); refine skip_ (w1 := ?_) (by rfl) rfl ?_ ?_; rotate_left
                             · go_simp
                               rfl
                             refine hK.out _ _ ?_; clear hK K; refine done_ (done_of HT_.out (by kernel_rfl)) ?_; try go_wp2
                             go_roundg k3
                             case measure => have := HK1.out; have := HJ19.out; have := HK3.out; omega
                             case rel => exact ⟨(y433), (wrap64 (x13_3 - 1)), (by first | rfl | (simp; done) | (simp [*]; done)), H', ⟨by have := HK1.out; have := HJ19.out; have := HK3.out; omega⟩, ⟨by (with_reducible repeat (first | apply Kd.N_alloc | apply Kd.N_drewN | apply Kd.N_drew)); exact Kd.N_mono (Kd.N_far (p := ⟨go34, (x13_3 : Int).toNat * 2 + 1, none⟩) (Kd.N_far (p := ⟨go34, (x13_3 : Int).toNat * 2, none⟩) (Kd.N_mono HO_10.out (fun k_ hk => (⟨hk, fun e_ => hk.1 (by rw [e_]; rfl)⟩ : _ ∧ k_ ≠ go34))) (fun _ hk => hk.2) (.int .i64 t429)) (fun _ hk => hk.2) ((.slice A432_ t430.length c432_))) (fun _ hk => hk.1.1)⟩, ⟨by (with_reducible repeat (first | apply Kd.N_alloc | apply Kd.N_drewN | apply Kd.N_drew)); exact HQ38.out⟩, ⟨by repeat (first | (with_reducible first | exact HB.out | apply below_alloc | apply pw_below_drewN | apply below_drew1 | refine below_set ?_ GB34.out | refine below_set ?_ GB34.out) | exact HB.out)⟩⟩
                           · rw [if_neg c33] at H; exact absurd H (by simp)
                         · rw [if_neg c31] at H; exact absurd H (by simp)
                       · rw [if_neg c30] at H; exact absurd H (by simp)
                     · rw [if_neg c28] at H; exact absurd H (by simp)
                   · rw [if_neg c27] at H; exact absurd H (by simp)
                 · rw [if_neg c26] at H; have c26b0 : decide (0 ≤ x13_3) = false := decide_eq_false c26; clear c26; have H' := Aside0.mk H; clear H; go_wp2
                   go_loopg [14, 15, 16, 17] k3 (fun kq v14 v15 v16 v17 w' => ∃ (x14_4 : List Int) (x15_4 : Int) (x16_4 : Int) (x17_4 : Int), v15 = .int .i64 x15_4 ∧ v16 = .int .i64 x16_4 ∧ v17 = .int .i64 x17_4 ∧ Aside0 (kimberliteref03_Split.l2 kq l0 a1 x10_1 x11_3 x14_4 x15_4 x16_4 x17_4 = some (r1, r2, r3, r4)) ∧ Aside0 (kq ≤ k3) ∧ Aside0 (Kd.N k78 78 w' w.heap.size (fun k_ => some k_ ≠ (v425 : Value).ownBlock ∧ some k_ ≠ (v14 : Value).ownBlock) (.slice Ao25 x10_1.length co25) x10_1) ∧ Aside0 (Kd.N k78 78 w' w.heap.size (fun k_ => some k_ ≠ (v14 : Value).ownBlock) v425 x11_3) ∧ Aside0 (Kd.R (Kd.int .i64) 3 w' w.heap.size (fun _ => True) v14 x14_4) ∧ Aside0 (Below w.heap.size w w'))
                   case atStart => exact ⟨(([] : List Int)), (a1), ((-1048576)), (0), (by first | rfl | (simp; done) | (simp [*]; done)), (by first | rfl | (simp; done) | (simp [*]; done)), (by first | rfl | (simp; done) | (simp [*]; done)), H', ⟨Nat.le_refl _⟩, ⟨by (with_reducible repeat (first | apply Kd.N_alloc | apply Kd.N_drewN | apply Kd.N_drew)); exact Kd.N_mono HO_10.out (fun _ hk => ⟨hk, (by simp [Value.ownBlock])⟩)⟩, ⟨by (with_reducible repeat (first | apply Kd.N_alloc | apply Kd.N_drewN | apply Kd.N_drew)); exact Kd.N_mono HO_11.out (fun _ hk => (by simp [Value.ownBlock]))⟩, ⟨by first | exact Kd.R_nil _ _ _ _ _ | exact Kd.N_nil _ _ _ _ _ | exact Kd.V_nil _ _ _ _ _ | exact Kd.Q_nil _ _ _ _ _ | exact Kd.S_nil _ _ _ _ _⟩, ⟨nC HB⟩⟩
                   case round =>
                    as_aux_lemma =>
                    clear H'; obtain ⟨x14_4, x15_4, x16_4, x17_4, rfl, rfl, rfl, HA, HK4, HO_10, HO_11, HO_14, HB⟩ := hrel
                    cases gk with
                    | zero => exact absurd HA.out (by simp [kimberliteref03_Split.l2])
                    | succ k4 =>
                     have H := HA.out; clear HA; simp only [kimberliteref03_Split.l2] at H
                     by_cases c39 : x17_4 < (l0.length : Int)
                     · rw [if_pos c39] at H; have c39b0 : decide (x17_4 < (l0.length : Int)) = true := decide_eq_true c39; clear c39
                       by_cases c40 : 0 ≤ x17_4
                       · rw [if_pos c40] at H; have c40b0 : decide (0 ≤ x17_4) = true := decide_eq_true c40; clear c40
                         by_cases c41 : x17_4 < (x10_1.length : Int)
                         · rw [if_pos c41] at H; have c41b0 : decide (x17_4 < (x10_1.length : Int)) = true := decide_eq_true c41; clear c41; have HC42 := Aside0.mk H; clear H; have p434 : 0 ≤ (x17_4 : Int) := of_decide_eq_true (by first | (with_reducible assumption) | assumption); have q434 : x17_4 < (x10_1.length : Int) := of_decide_eq_true (by first | (with_reducible assumption) | assumption); obtain ⟨ad434, A434_1, c434_1, e434, hx434_0, hx434_1, hl434_1, hi434_1⟩ := at_T78 (Kd.N_reads' HO_10.out).2.2 x17_4 p434 q434
                           cases e434
                           obtain ⟨ce434, hce434, hMe434, hcc434⟩ := Kd.N_get HO_10.out z78 x17_4 p434 (by first | exact q434 | exact of_decide_eq_true (by first | (with_reducible assumption) | assumption) | (have e_ := (Kd.N_reads' HO_10.out).1; omega)); obtain ⟨ua434_1, uc434_1, rfl, ul434_1, ge434_1⟩ := k78_openF hMe434; have hv434_1 := hcc434 1 _ rfl; rw [add_field _ _ 1 (by omega)] at hv434_1; replace hv434_1 := Option.some.inj (hv434_1.symm.trans hx434_1); injection hv434_1 with hva_ hvn_ hvc_
                           rw [hva_] at ge434_1; rw [hvc_] at ul434_1; have HL434_1 := Aside0.mk (show Kd.V (Kd.int .i64) 3 _ w.heap.size _ _ ((rd_T78 x10_1 x17_4).f1) from Kd.V_mk ul434_1 ge434_1); clear hva_ hvn_ hvc_ ge434_1 ul434_1; clear hcc434 hce434; have HR434_1 := Aside0.mk hi434_1; have HC434_1 := Aside0.mk hl434_1; clear hi434_1 hl434_1; replace p434 := eq_true p434; replace q434 := eq_true q434; go_upto_block 6 with (fail)
                           go_cut [18] (fun v18 wc => ∃ (kq : Nat) (x18_41 : Int), v18 = .int .i64 x18_41 ∧ Aside0 (kimberliteref03_Split.j7 kq l0 a1 x10_1 x11_3 x14_4 x15_4 x16_4 x17_4 x18_41 = some (r1, r2, r3, r4)) ∧ Aside0 (kq ≤ k4) ∧ Aside0 (Kd.N k78 78 wc w.heap.size (fun k_ => some k_ ≠ (v425 : Value).ownBlock ∧ some k_ ≠ (u14 : Value).ownBlock) (.slice (some ad434) x10_1.length co25) x10_1) ∧ Aside0 (Kd.N k78 78 wc w.heap.size (fun k_ => some k_ ≠ (u14 : Value).ownBlock) v425 x11_3) ∧ Aside0 (Kd.R (Kd.int .i64) 3 wc w.heap.size (fun _ => True) u14 x14_4) ∧ Aside0 (Kd.C (Kd.int .i64) wc A434_1 ((rd_T78 x10_1 x17_4).f1).length ((rd_T78 x10_1 x17_4).f1)) ∧ Aside0 (Below w.heap.size w wc))
                           case first =>
                            as_aux_lemma =>
                            have H := HC42.out; clear HC42; have H' := Aside0.mk H; clear H; go_wp2
                            go_loopg [18, 19] k4 (fun kq v18 v19 w' => ∃ (x18_5 : Int) (x19_5 : Int), v18 = .int .i64 x18_5 ∧ v19 = .int .i64 x19_5 ∧ Aside0 (kimberliteref03_Split.l3 kq l0 a1 x10_1 x11_3 x14_4 x15_4 x16_4 x17_4 x18_5 x19_5 = some (r1, r2, r3, r4)) ∧ Aside0 (kq ≤ k4) ∧ Aside0 (Kd.N k78 78 w' w.heap.size (fun k_ => some k_ ≠ (v425 : Value).ownBlock ∧ some k_ ≠ (u14 : Value).ownBlock) (.slice (some ad434) x10_1.length co25) x10_1) ∧ Aside0 (Kd.N k78 78 w' w.heap.size (fun k_ => some k_ ≠ (u14 : Value).ownBlock) v425 x11_3) ∧ Aside0 (Kd.R (Kd.int .i64) 3 w' w.heap.size (fun _ => True) u14 x14_4) ∧ Aside0 (Kd.C (Kd.int .i64) w' A434_1 ((rd_T78 x10_1 x17_4).f1).length ((rd_T78 x10_1 x17_4).f1)) ∧ Aside0 (Below w.heap.size w w'))
                            case atStart => exact ⟨(x15_4), ((rd_T78 x10_1 x17_4).f0), (by first | rfl | (simp; done) | (simp [*]; done)), (by first | rfl | (simp; done) | (simp [*]; done)), H', ⟨Nat.le_refl _⟩, ⟨nN HO_10⟩, ⟨nN HO_11⟩, ⟨nR HO_14⟩, ⟨by repeat (first | (with_reducible exact HR434_1.out) | (with_reducible refine Kd.C_alloc ?_ _) | (with_reducible refine Kd.C_drewN ?_ _) | (with_reducible refine Kd.C_drew ?_) | exact HR434_1.out)⟩, ⟨nC HB⟩⟩
                            case round =>
                             as_aux_lemma =>
                             clear H'; obtain ⟨x18_5, x19_5, rfl, rfl, HA, HK5, HO_10, HO_11, HO_14, HR434_1, HB⟩ := hrel
                             cases gk with
                             | zero => exact absurd HA.out (by simp [kimberliteref03_Split.l3])
                             | succ k5 =>
                              have H := HA.out; clear HA; simp only [kimberliteref03_Split.l3] at H; have HC43 := Aside0.mk H; clear H; go_upto_region 29 with (fail)
                              go_cut [117] (fun v117 wc => ∃ (kq : Nat) (x117_42 : Bool), v117 = .bool x117_42 ∧ Aside0 (kimberliteref03_Split.j5 kq l0 a1 x10_1 x11_3 x14_4 x15_4 x16_4 x17_4 x18_5 x19_5 x117_42 = some (r1, r2, r3, r4)) ∧ Aside0 (kq ≤ k5) ∧ Aside0 (Kd.N k78 78 wc w.heap.size (fun k_ => some k_ ≠ (v425 : Value).ownBlock ∧ some k_ ≠ (u14 : Value).ownBlock) (.slice (some ad434) x10_1.length co25) x10_1) ∧ Aside0 (Kd.N k78 78 wc w.heap.size (fun k_ => some k_ ≠ (u14 : Value).ownBlock) v425 x11_3) ∧ Aside0 (Kd.R (Kd.int .i64) 3 wc w.heap.size (fun _ => True) u14 x14_4) ∧ Aside0 (Kd.C (Kd.int .i64) wc A434_1 ((rd_T78 x10_1 x17_4).f1).length ((rd_T78 x10_1 x17_4).f1)) ∧ Aside0 (Below w.heap.size w wc))
                              case first =>
                               as_aux_lemma =>
                               have H := HC43.out; clear HC43
                               by_cases c44 : 0 ≤ x17_4
                               · rw [if_pos c44] at H; have c44b0 : decide (0 ≤ x17_4) = true := decide_eq_true c44; clear c44; (first | rw [c44b0] | (simp only [i64_w, i32_w]; rw [c44b0]) | skip)
                                 by_cases c45 : x17_4 < (x10_1.length : Int)
                                 · rw [if_pos c45] at H; have c45b0 : decide (x17_4 < (x10_1.length : Int)) = true := decide_eq_true c45; clear c45; replace H := Option.bind_eq_some_iff.mp H; obtain ⟨t436, A460, H⟩ := H; replace H : (if x19_5 ≤ t436 then (kimberliteref03_Split.j5 k5 l0 a1 x10_1 x11_3 x14_4 x15_4 x16_4 x17_4 x18_5 x19_5 (decide ((wrap64 (x17_4 + 1)) < (l0.length : Int)))) else (kimberliteref03_Split.j5 k5 l0 a1 x10_1 x11_3 x14_4 x15_4 x16_4 x17_4 x18_5 x19_5 false)) = some (r1, r2, r3, r4) := H; have A46 := Aside0.mk A460; clear A460
                                   by_cases c47 : x19_5 ≤ t436
                                   · rw [if_pos c47] at H; have c47b0 : decide (x19_5 ≤ t436) = true := decide_eq_true c47; clear c47; have H' := Aside0.mk H; clear H; have p435 : 0 ≤ (x17_4 : Int) := of_decide_eq_true (by first | (with_reducible assumption) | assumption); have q435 : x17_4 < (x10_1.length : Int) := of_decide_eq_true (by first | (with_reducible assumption) | assumption); obtain ⟨ad435, A435_1, c435_1, e435, hx435_0, hx435_1, hl435_1, hi435_1⟩ := at_T78 (Kd.N_reads' HO_10.out).2.2 x17_4 p435 q435; obtain rfl : ad434 = ad435 := (by injection e435); obtain ⟨ce435, hce435, hMe435, hcc435⟩ := Kd.N_get HO_10.out z78 x17_4 p435 (by first | exact q435 | exact of_decide_eq_true (by first | (with_reducible assumption) | assumption) | (have e_ := (Kd.N_reads' HO_10.out).1; omega)); obtain ⟨ua435_1, uc435_1, rfl, ul435_1, ge435_1⟩ := k78_openF hMe435; have hv435_1 := hcc435 1 _ rfl; rw [add_field _ _ 1 (by omega)] at hv435_1; replace hv435_1 := Option.some.inj (hv435_1.symm.trans hx435_1); injection hv435_1 with hva_ hvn_ hvc_
                                     rw [hva_] at ge435_1; rw [hvc_] at ul435_1; have HL435_1 := Aside0.mk (show Kd.V (Kd.int .i64) 3 _ w.heap.size _ _ ((rd_T78 x10_1 x17_4).f1) from Kd.V_mk ul435_1 ge435_1); clear hva_ hvn_ hvc_ ge435_1 ul435_1; clear hcc435 hce435; have HR435_1 := Aside0.mk hi435_1; have HC435_1 := Aside0.mk hl435_1; clear hi435_1 hl435_1; replace p435 := eq_true p435; replace q435 := eq_true q435; go_wp2_with (first | ((with_reducible refine gate_callee (f := 65) rfl ?_); refine gL (some 109) Try.func65 #[.agg #[.int .i64 ((rd_T78 x10_1 x17_4).f0), .slice A435_1 ((rd_T78 x10_1 x17_4).f1).length c435_1]] ?_; (with_reducible refine (kimberliteref03_Row_To.calls ((rd_T78 x10_1 x17_4).f0) _ _ ((rd_T78 x10_1 x17_4).f1) t436 _ ?side1 ?side2 A46.out).mono ?_); (case side1 => exact nT HR435_1); (case side2 => exact HC435_1.out); rintro e w48 ⟨rfl, hb⟩; refine ⟨_, rfl, ?_⟩; replace HO_10 := Aside0.mk (Kd.N_below (nN HO_10) hb); replace HO_11 := Aside0.mk (Kd.N_below (nN HO_11) hb); replace HO_14 := Aside0.mk (Kd.R_below (nR HO_14) hb); replace HL435_1 := Aside0.mk (Kd.V_below (nV HL435_1) hb); replace HR434_1 := Aside0.mk (Kd.C_below (nT HR434_1) hb); replace HR435_1 := Aside0.mk (Kd.C_below (nT HR435_1) hb); replace HB := Aside0.mk (below_step (nC HB) hb); (try clear hb); (try clear hb2); (try clear hk); (try clear hi)))
                                     go_meet
                                     case rel => exact ⟨_, (decide ((wrap64 (x17_4 + 1)) < (l0.length : Int))), (by first | rfl | (simp; done) | (simp [*]; done)), H', ⟨by have := HK1.out; have := HJ19.out; have := HK3.out; have := HK4.out; have := HK5.out; first | omega | exact Nat.le_refl _⟩, ⟨nN HO_10⟩, ⟨nN HO_11⟩, ⟨nR HO_14⟩, ⟨by repeat (first | (with_reducible exact HR434_1.out) | (with_reducible refine Kd.C_alloc ?_ _) | (with_reducible refine Kd.C_drewN ?_ _) | (with_reducible refine Kd.C_drew ?_) | exact HR434_1.out)⟩, ⟨nC HB⟩⟩
                                   · rw [if_neg c47] at H; have c47b0 : decide (x19_5 ≤ t436) = false := decide_eq_false c47; clear c47; have H' := Aside0.mk H; clear H; have p435 : 0 ≤ (x17_4 : Int) := of_decide_eq_true (by first | (with_reducible assumption) | assumption); have q435 : x17_4 < (x10_1.length : Int) := of_decide_eq_true (by first | (with_reducible assumption) | assumption); obtain ⟨ad435, A435_1, c435_1, e435, hx435_0, hx435_1, hl435_1, hi435_1⟩ := at_T78 (Kd.N_reads' HO_10.out).2.2 x17_4 p435 q435; obtain rfl : ad434 = ad435 := (by injection e435); obtain ⟨ce435, hce435, hMe435, hcc435⟩ := Kd.N_get HO_10.out z78 x17_4 p435 (by first | exact q435 | exact of_decide_eq_true (by first | (with_reducible assumption) | assumption) | (have e_ := (Kd.N_reads' HO_10.out).1; omega)); obtain ⟨ua435_1, uc435_1, rfl, ul435_1, ge435_1⟩ := k78_openF hMe435; have hv435_1 := hcc435 1 _ rfl; rw [add_field _ _ 1 (by omega)] at hv435_1; replace hv435_1 := Option.some.inj (hv435_1.symm.trans hx435_1); injection hv435_1 with hva_ hvn_ hvc_
                                     rw [hva_] at ge435_1; rw [hvc_] at ul435_1; have HL435_1 := Aside0.mk (show Kd.V (Kd.int .i64) 3 _ w.heap.size _ _ ((rd_T78 x10_1 x17_4).f1) from Kd.V_mk ul435_1 ge435_1); clear hva_ hvn_ hvc_ ge435_1 ul435_1; clear hcc435 hce435; have HR435_1 := Aside0.mk hi435_1; have HC435_1 := Aside0.mk hl435_1; clear hi435_1 hl435_1; replace p435 := eq_true p435; replace q435 := eq_true q435; go_wp2_with (first | ((with_reducible refine gate_callee (f := 65) rfl ?_); refine gL (some 109) Try.func65 #[.agg #[.int .i64 ((rd_T78 x10_1 x17_4).f0), .slice A435_1 ((rd_T78 x10_1 x17_4).f1).length c435_1]] ?_; (with_reducible refine (kimberliteref03_Row_To.calls ((rd_T78 x10_1 x17_4).f0) _ _ ((rd_T78 x10_1 x17_4).f1) t436 _ ?side1 ?side2 A46.out).mono ?_); (case side1 => exact nT HR435_1); (case side2 => exact HC435_1.out); rintro e w49 ⟨rfl, hb⟩; refine ⟨_, rfl, ?_⟩; replace HO_10 := Aside0.mk (Kd.N_below (nN HO_10) hb); replace HO_11 := Aside0.mk (Kd.N_below (nN HO_11) hb); replace HO_14 := Aside0.mk (Kd.R_below (nR HO_14) hb); replace HL435_1 := Aside0.mk (Kd.V_below (nV HL435_1) hb); replace HR434_1 := Aside0.mk (Kd.C_below (nT HR434_1) hb); replace HR435_1 := Aside0.mk (Kd.C_below (nT HR435_1) hb); replace HB := Aside0.mk (below_step (nC HB) hb); (try clear hb); (try clear hb2); (try clear hk); (try clear hi)))
                                     go_meet
                                     case rel => exact ⟨_, (false), (by first | rfl | (simp; done) | (simp [*]; done)), H', ⟨by have := HK1.out; have := HJ19.out; have := HK3.out; have := HK4.out; have := HK5.out; first | omega | exact Nat.le_refl _⟩, ⟨nN HO_10⟩, ⟨nN HO_11⟩, ⟨nR HO_14⟩, ⟨by repeat (first | (with_reducible exact HR434_1.out) | (with_reducible refine Kd.C_alloc ?_ _) | (with_reducible refine Kd.C_drewN ?_ _) | (with_reducible refine Kd.C_drew ?_) | exact HR434_1.out)⟩, ⟨nC HB⟩⟩
                                 · rw [if_neg c45] at H; exact absurd H (by simp)
                               · rw [if_neg c44] at H; exact absurd H (by simp)
                              case rest =>
                               as_aux_lemma =>
                               clear HC43; obtain ⟨kq, x117_42, rfl, HA, HJ42, HO_10, HO_11, HO_14, HR434_1, HB⟩ := hcut
                               cases kq with
                               | zero => exact absurd HA.out (by simp [kimberliteref03_Split.j5])
                               | succ kj42 =>
                                have H := HA.out; clear HA; simp only [kimberliteref03_Split.j5] at H
                                by_cases c50 : x117_42 = true
                                · subst c50; replace H : (if 0 ≤ (wrap64 (x17_4 + 1)) then (if (wrap64 (x17_4 + 1)) < (x11_3.length : Int) then ((kimberliteref03_Row_has.f ((rd_T78 x11_3 (wrap64 (x17_4 + 1))).f0) ((rd_T78 x11_3 (wrap64 (x17_4 + 1))).f1) (wrap64 (x15_4 - x19_5))).bind fun t438 => (if t438 = true then (if 0 ≤ x17_4 then (if x17_4 < (x10_1.length : Int) then ((kimberliteref03_Row_Value.f ((rd_T78 x10_1 x17_4).f0) ((rd_T78 x10_1 x17_4).f1) x19_5).bind fun t440 => ((kimberliteref03_Row_Value.f ((rd_T78 x11_3 (wrap64 (x17_4 + 1))).f0) ((rd_T78 x11_3 (wrap64 (x17_4 + 1))).f1) (wrap64 (x15_4 - x19_5))).bind fun t442 => (if x17_4 < (x11_3.length : Int) then ((kimberliteref03_Row_Value.f ((rd_T78 x11_3 x17_4).f0) ((rd_T78 x11_3 x17_4).f1) x15_4).bind fun t444 => (kimberliteref03_Split.j6 kj42 l0 a1 x10_1 x11_3 x14_4 x15_4 x16_4 x17_4 x18_5 x19_5 ((wrap64 (t440 + t442)) == t444))) else (none)))) else (none)) else (none)) else (kimberliteref03_Split.j6 kj42 l0 a1 x10_1 x11_3 x14_4 x15_4 x16_4 x17_4 x18_5 x19_5 false))) else (none)) else (none)) = some (r1, r2, r3, r4) := by rw [if_pos rfl] at H; exact H
                                  have HC51 := Aside0.mk H; clear H; go_upto_region 31 with (fail)
                                  go_cut [153] (fun v153 wc => ∃ (kq : Nat) (x153_50 : Bool), v153 = .bool x153_50 ∧ Aside0 (kimberliteref03_Split.j6 kq l0 a1 x10_1 x11_3 x14_4 x15_4 x16_4 x17_4 x18_5 x19_5 x153_50 = some (r1, r2, r3, r4)) ∧ Aside0 (kq ≤ kj42) ∧ Aside0 (Kd.N k78 78 wc w.heap.size (fun k_ => some k_ ≠ (v425 : Value).ownBlock ∧ some k_ ≠ (u14 : Value).ownBlock) (.slice (some ad434) x10_1.length co25) x10_1) ∧ Aside0 (Kd.N k78 78 wc w.heap.size (fun k_ => some k_ ≠ (u14 : Value).ownBlock) v425 x11_3) ∧ Aside0 (Kd.R (Kd.int .i64) 3 wc w.heap.size (fun _ => True) u14 x14_4) ∧ Aside0 (Kd.C (Kd.int .i64) wc A434_1 ((rd_T78 x10_1 x17_4).f1).length ((rd_T78 x10_1 x17_4).f1)) ∧ Aside0 (Below w.heap.size w wc))
                                  case first =>
                                   as_aux_lemma =>
                                   have H := HC51.out; clear HC51; obtain ⟨ji52, hji52⟩ : ∃ j_ : Int, (wrap64 (x17_4 + 1)) = j_ := ⟨_, rfl⟩; replace H : (if 0 ≤ (ji52) then (if (ji52) < (x11_3.length : Int) then ((kimberliteref03_Row_has.f ((rd_T78 x11_3 (ji52)).f0) ((rd_T78 x11_3 (ji52)).f1) (wrap64 (x15_4 - x19_5))).bind fun t438 => (if t438 = true then (if 0 ≤ x17_4 then (if x17_4 < (x10_1.length : Int) then ((kimberliteref03_Row_Value.f ((rd_T78 x10_1 x17_4).f0) ((rd_T78 x10_1 x17_4).f1) x19_5).bind fun t440 => ((kimberliteref03_Row_Value.f ((rd_T78 x11_3 (ji52)).f0) ((rd_T78 x11_3 (ji52)).f1) (wrap64 (x15_4 - x19_5))).bind fun t442 => (if x17_4 < (x11_3.length : Int) then ((kimberliteref03_Row_Value.f ((rd_T78 x11_3 x17_4).f0) ((rd_T78 x11_3 x17_4).f1) x15_4).bind fun t444 => (kimberliteref03_Split.j6 kj42 l0 a1 x10_1 x11_3 x14_4 x15_4 x16_4 x17_4 x18_5 x19_5 ((wrap64 (t440 + t442)) == t444))) else (none)))) else (none)) else (none)) else (kimberliteref03_Split.j6 kj42 l0 a1 x10_1 x11_3 x14_4 x15_4 x16_4 x17_4 x18_5 x19_5 false))) else (none)) else (none)) = some (r1, r2, r3, r4) := by first | (rw [hji52] at H; exact H) | (simp only [hji52] at H ⊢; exact H)
                                   have hji52w : (IntKind.i64.wrap (x17_4 + 1)) = ji52 := (i64_w _).trans hji52
                                   by_cases c53 : 0 ≤ (ji52)
                                   · rw [if_pos c53] at H; have c53b0 : decide (0 ≤ (ji52)) = true := decide_eq_true c53; clear c53; (first | rw [c53b0] | (simp only [i64_w, i32_w]; rw [c53b0]) | skip)
                                     by_cases c54 : (ji52) < (x11_3.length : Int)
                                     · rw [if_pos c54] at H; have c54b0 : decide ((ji52) < (x11_3.length : Int)) = true := decide_eq_true c54; clear c54; replace H := Option.bind_eq_some_iff.mp H; obtain ⟨t438, A550, H⟩ := H; replace H : (if t438 = true then (if 0 ≤ x17_4 then (if x17_4 < (x10_1.length : Int) then ((kimberliteref03_Row_Value.f ((rd_T78 x10_1 x17_4).f0) ((rd_T78 x10_1 x17_4).f1) x19_5).bind fun t440 => ((kimberliteref03_Row_Value.f ((rd_T78 x11_3 (ji52)).f0) ((rd_T78 x11_3 (ji52)).f1) (wrap64 (x15_4 - x19_5))).bind fun t442 => (if x17_4 < (x11_3.length : Int) then ((kimberliteref03_Row_Value.f ((rd_T78 x11_3 x17_4).f0) ((rd_T78 x11_3 x17_4).f1) x15_4).bind fun t444 => (kimberliteref03_Split.j6 kj42 l0 a1 x10_1 x11_3 x14_4 x15_4 x16_4 x17_4 x18_5 x19_5 ((wrap64 (t440 + t442)) == t444))) else (none)))) else (none)) else (none)) else (kimberliteref03_Split.j6 kj42 l0 a1 x10_1 x11_3 x14_4 x15_4 x16_4 x17_4 x18_5 x19_5 false)) = some (r1, r2, r3, r4) := H; have A55 := Aside0.mk A550; clear A550
                                       by_cases c56 : t438 = true
                                       · subst c56; replace H : (if 0 ≤ x17_4 then (if x17_4 < (x10_1.length : Int) then ((kimberliteref03_Row_Value.f ((rd_T78 x10_1 x17_4).f0) ((rd_T78 x10_1 x17_4).f1) x19_5).bind fun t440 => ((kimberliteref03_Row_Value.f ((rd_T78 x11_3 (ji52)).f0) ((rd_T78 x11_3 (ji52)).f1) (wrap64 (x15_4 - x19_5))).bind fun t442 => (if x17_4 < (x11_3.length : Int) then ((kimberliteref03_Row_Value.f ((rd_T78 x11_3 x17_4).f0) ((rd_T78 x11_3 x17_4).f1) x15_4).bind fun t444 => (kimberliteref03_Split.j6 kj42 l0 a1 x10_1 x11_3 x14_4 x15_4 x16_4 x17_4 x18_5 x19_5 ((wrap64 (t440 + t442)) == t444))) else (none)))) else (none)) else (none)) = some (r1, r2, r3, r4) := by rw [if_pos rfl] at H; exact H
                                         by_cases c57 : 0 ≤ x17_4
                                         · rw [if_pos c57] at H; have c57b0 : decide (0 ≤ x17_4) = true := decide_eq_true c57; clear c57
                                           by_cases c58 : x17_4 < (x10_1.length : Int)
                                           · rw [if_pos c58] at H; have c58b0 : decide (x17_4 < (x10_1.length : Int)) = true := decide_eq_true c58; clear c58; replace H := Option.bind_eq_some_iff.mp H; obtain ⟨t440, A590, H⟩ := H; replace H : ((kimberliteref03_Row_Value.f ((rd_T78 x11_3 (ji52)).f0) ((rd_T78 x11_3 (ji52)).f1) (wrap64 (x15_4 - x19_5))).bind fun t442 => (if x17_4 < (x11_3.length : Int) then ((kimberliteref03_Row_Value.f ((rd_T78 x11_3 x17_4).f0) ((rd_T78 x11_3 x17_4).f1) x15_4).bind fun t444 => (kimberliteref03_Split.j6 kj42 l0 a1 x10_1 x11_3 x14_4 x15_4 x16_4 x17_4 x18_5 x19_5 ((wrap64 (t440 + t442)) == t444))) else (none))) = some (r1, r2, r3, r4) := H; have A59 := Aside0.mk A590; clear A590; replace H := Option.bind_eq_some_iff.mp H; obtain ⟨t442, A600, H⟩ := H; replace H : (if x17_4 < (x11_3.length : Int) then ((kimberliteref03_Row_Value.f ((rd_T78 x11_3 x17_4).f0) ((rd_T78 x11_3 x17_4).f1) x15_4).bind fun t444 => (kimberliteref03_Split.j6 kj42 l0 a1 x10_1 x11_3 x14_4 x15_4 x16_4 x17_4 x18_5 x19_5 ((wrap64 (t440 + t442)) == t444))) else (none)) = some (r1, r2, r3, r4) := H; have A60 := Aside0.mk A600; clear A600
                                             by_cases c61 : x17_4 < (x11_3.length : Int)
                                             · rw [if_pos c61] at H; have c61b0 : decide (x17_4 < (x11_3.length : Int)) = true := decide_eq_true c61; clear c61; replace H := Option.bind_eq_some_iff.mp H; obtain ⟨t444, A620, H⟩ := H; replace H : (kimberliteref03_Split.j6 kj42 l0 a1 x10_1 x11_3 x14_4 x15_4 x16_4 x17_4 x18_5 x19_5 ((wrap64 (t440 + t442)) == t444)) = some (r1, r2, r3, r4) := H; have A62 := Aside0.mk A620; clear A620; have H' := Aside0.mk H; clear H; try go_wp2
                                               replace HO_10 := Aside0.mk (Kd.N_drew HO_10.out); replace HO_11 := Aside0.mk (Kd.N_drew HO_11.out); replace HO_14 := Aside0.mk (Kd.R_drew HO_14.out); replace HR434_1 := Aside0.mk (Kd.C_drew HR434_1.out); replace HB := Aside0.mk (below_drew1 HB.out); obtain ⟨Ao64, co64, eo64⟩ := Kd.N_slice HO_11.out; (first | subst eo64 | (injection eo64 with f1_ f2_ f3_; have f4_ := f1_.symm; have f5_ := f3_.symm; clear f1_ f2_ f3_; subst f4_; subst f5_)); have p437 : 0 ≤ ((ji52) : Int) := of_decide_eq_true (by first | (with_reducible assumption) | assumption); have q437 : (ji52) < (x11_3.length : Int) := of_decide_eq_true (by first | (with_reducible assumption) | assumption); obtain ⟨ad437, A437_1, c437_1, e437, hx437_0, hx437_1, hl437_1, hi437_1⟩ := at_T78 (Kd.N_reads' HO_11.out).2.2 (ji52) p437 q437
                                               cases e437
                                               obtain ⟨ce437, hce437, hMe437, hcc437⟩ := Kd.N_get HO_11.out z78 (ji52) p437 (by first | exact q437 | exact of_decide_eq_true (by first | (with_reducible assumption) | assumption) | (have e_ := (Kd.N_reads' HO_11.out).1; omega)); obtain ⟨ua437_1, uc437_1, rfl, ul437_1, ge437_1⟩ := k78_openF hMe437; have hv437_1 := hcc437 1 _ rfl; rw [add_field _ _ 1 (by omega)] at hv437_1; replace hv437_1 := Option.some.inj (hv437_1.symm.trans hx437_1); injection hv437_1 with hva_ hvn_ hvc_
                                               rw [hva_] at ge437_1; rw [hvc_] at ul437_1; have HL437_1 := Aside0.mk (show Kd.V (Kd.int .i64) 3 _ w.heap.size _ _ ((rd_T78 x11_3 (ji52)).f1) from Kd.V_mk ul437_1 ge437_1); clear hva_ hvn_ hvc_ ge437_1 ul437_1; clear hcc437 hce437; have HR437_1 := Aside0.mk hi437_1; have HC437_1 := Aside0.mk hl437_1; clear hi437_1 hl437_1; replace p437 := eq_true p437; replace q437 := eq_true q437; have p439 : 0 ≤ (x17_4 : Int) := of_decide_eq_true (by first | (with_reducible assumption) | assumption); have q439 : x17_4 < (x10_1.length : Int) := of_decide_eq_true (by first | (with_reducible assumption) | assumption); obtain ⟨ad439, A439_1, c439_1, e439, hx439_0, hx439_1, hl439_1, hi439_1⟩ := at_T78 (Kd.N_reads' HO_10.out).2.2 x17_4 p439 q439; obtain rfl : ad434 = ad439 := (by injection e439); obtain ⟨ce439, hce439, hMe439, hcc439⟩ := Kd.N_get HO_10.out z78 x17_4 p439 (by first | exact q439 | exact of_decide_eq_true (by first | (with_reducible assumption) | assumption) | (have e_ := (Kd.N_reads' HO_10.out).1; omega)); obtain ⟨ua439_1, uc439_1, rfl, ul439_1, ge439_1⟩ := k78_openF hMe439; have hv439_1 := hcc439 1 _ rfl; rw [add_field _ _ 1 (by omega)] at hv439_1; replace hv439_1 := Option.some.inj (hv439_1.symm.trans hx439_1); injection hv439_1 with hva_ hvn_ hvc_
                                               rw [hva_] at ge439_1; rw [hvc_] at ul439_1; have HL439_1 := Aside0.mk (show Kd.V (Kd.int .i64) 3 _ w.heap.size _ _ ((rd_T78 x10_1 x17_4).f1) from Kd.V_mk ul439_1 ge439_1); clear hva_ hvn_ hvc_ ge439_1 ul439_1; clear hcc439 hce439; have HR439_1 := Aside0.mk hi439_1; have HC439_1 := Aside0.mk hl439_1; clear hi439_1 hl439_1; replace p439 := eq_true p439; replace q439 := eq_true q439; have p441 : 0 ≤ ((ji52) : Int) := of_decide_eq_true (by first | (with_reducible assumption) | assumption); have q441 : (ji52) < (x11_3.length : Int) := of_decide_eq_true (by first | (with_reducible assumption) | assumption); obtain ⟨ad441, A441_1, c441_1, e441, hx441_0, hx441_1, hl441_1, hi441_1⟩ := at_T78 (Kd.N_reads' HO_11.out).2.2 (ji52) p441 q441; obtain rfl : ad437 = ad441 := (by injection e441); obtain ⟨ce441, hce441, hMe441, hcc441⟩ := Kd.N_get HO_11.out z78 (ji52) p441 (by first | exact q441 | exact of_decide_eq_true (by first | (with_reducible assumption) | assumption) | (have e_ := (Kd.N_reads' HO_11.out).1; omega)); obtain ⟨ua441_1, uc441_1, rfl, ul441_1, ge441_1⟩ := k78_openF hMe441; have hv441_1 := hcc441 1 _ rfl; rw [add_field _ _ 1 (by omega)] at hv441_1; replace hv441_1 := Option.some.inj (hv441_1.symm.trans hx441_1); injection hv441_1 with hva_ hvn_ hvc_
                                               rw [hva_] at ge441_1; rw [hvc_] at ul441_1; have HL441_1 := Aside0.mk (show Kd.V (Kd.int .i64) 3 _ w.heap.size _ _ ((rd_T78 x11_3 (ji52)).f1) from Kd.V_mk ul441_1 ge441_1); clear hva_ hvn_ hvc_ ge441_1 ul441_1; clear hcc441 hce441; have HR441_1 := Aside0.mk hi441_1; have HC441_1 := Aside0.mk hl441_1; clear hi441_1 hl441_1; replace p441 := eq_true p441; replace q441 := eq_true q441; have p443 : 0 ≤ (x17_4 : Int) := of_decide_eq_true (by first | (with_reducible assumption) | assumption); have q443 : x17_4 < (x11_3.length : Int) := of_decide_eq_true (by first | (with_reducible assumption) | assumption); obtain ⟨ad443, A443_1, c443_1, e443, hx443_0, hx443_1, hl443_1, hi443_1⟩ := at_T78 (Kd.N_reads' HO_11.out).2.2 x17_4 p443 q443; obtain rfl : ad437 = ad443 := (by injection e443); obtain ⟨ce443, hce443, hMe443, hcc443⟩ := Kd.N_get HO_11.out z78 x17_4 p443 (by first | exact q443 | exact of_decide_eq_true (by first | (with_reducible assumption) | assumption) | (have e_ := (Kd.N_reads' HO_11.out).1; omega)); obtain ⟨ua443_1, uc443_1, rfl, ul443_1, ge443_1⟩ := k78_openF hMe443; have hv443_1 := hcc443 1 _ rfl; rw [add_field _ _ 1 (by omega)] at hv443_1; replace hv443_1 := Option.some.inj (hv443_1.symm.trans hx443_1); injection hv443_1 with hva_ hvn_ hvc_
                                               rw [hva_] at ge443_1; rw [hvc_] at ul443_1; have HL443_1 := Aside0.mk (show Kd.V (Kd.int .i64) 3 _ w.heap.size _ _ ((rd_T78 x11_3 x17_4).f1) from Kd.V_mk ul443_1 ge443_1); clear hva_ hvn_ hvc_ ge443_1 ul443_1; clear hcc443 hce443; have HR443_1 := Aside0.mk hi443_1; have HC443_1 := Aside0.mk hl443_1; clear hi443_1 hl443_1; replace p443 := eq_true p443; replace q443 := eq_true q443; obtain ⟨hA_, hc_⟩ : A437_1 = A441_1 ∧ c437_1 = c441_1 := by have h_ := Option.some.inj (hx437_1.symm.trans hx441_1); injection h_ with h1_ _ h2_; exact ⟨h1_, h2_⟩
                                               subst hA_; subst hc_; refine start_ (n := 34) (S := fun w' => w'.cell? (ad437.add (((ji52)).toNat * 2)) = some (.int .i64 ((rd_T78 x11_3 (ji52)).f0)) ∧ w'.cell? ⟨(ad437.add (((ji52)).toNat * 2)).block, (ad437.add (((ji52)).toNat * 2)).off + 1, none⟩ = some (.slice A437_1 ((rd_T78 x11_3 (ji52)).f1).length c437_1) ∧ w'.cell? (ad434.add ((x17_4).toNat * 2)) = some (.int .i64 ((rd_T78 x10_1 x17_4).f0)) ∧ w'.cell? ⟨(ad434.add ((x17_4).toNat * 2)).block, (ad434.add ((x17_4).toNat * 2)).off + 1, none⟩ = some (.slice A439_1 ((rd_T78 x10_1 x17_4).f1).length c439_1) ∧ w'.cell? (ad437.add (((ji52)).toNat * 2)) = some (.int .i64 ((rd_T78 x11_3 (ji52)).f0)) ∧ w'.cell? ⟨(ad437.add (((ji52)).toNat * 2)).block, (ad437.add (((ji52)).toNat * 2)).off + 1, none⟩ = some (.slice A437_1 ((rd_T78 x11_3 (ji52)).f1).length c437_1) ∧ w'.cell? (ad437.add ((x17_4).toNat * 2)) = some (.int .i64 ((rd_T78 x11_3 x17_4).f0)) ∧ w'.cell? ⟨(ad437.add ((x17_4).toNat * 2)).block, (ad437.add ((x17_4).toNat * 2)).off + 1, none⟩ = some (.slice A443_1 ((rd_T78 x11_3 x17_4).f1).length c443_1)) (ds := []) #[false, false, false, false, false, false, false, false, false, false, false, false, false, false, false, false, false, false, false, false, false, false, false, false, false, false, false, false, false, false, false, false, false, false] (by kernel_rfl) rfl rfl ⟨hx437_0, hx437_1, hx439_0, hx439_1, hx441_0, hx441_1, hx443_0, hx443_1⟩ (fun hHeld => ?_); refine with_tabW kimberliteref03_Split.tab31 kimberliteref03_Split.bits31 (fun HT_ HW_ => ?_); generalize wc.drew = w63 at HO_10 HO_11 HO_14 HR434_1 HB HL437_1 HL439_1 HL441_1 HL443_1 HR437_1 HR439_1 HR441_1 HR443_1 hx437_0 hx437_1 hx439_0 hx439_1 hx441_0 hx441_1 hx443_0 hx443_1 hHeld ⊢; refine pure_ (i := 0) (N := some 120) (v := ?_) (a' := ?_) #[true, false, false, false, false, false, false, false, false, false, false, false, false, false, false, false, false, false, false, false, false, false, false, false, false, false, false, false, false, false, false, false, false, false] rfl rfl (any_of HT_.out (by kernel_rfl)) (fun _ _ _ h => h) (Or.inl ⟨by rfl, ?_⟩) ?_ ?_; rotate_left
                                               · intro w'; go_simp
                                                 with_reducible rfl
                                               rotate_left
                                               · simp only [Act.put, zs1, zs2, zs3, i64_w, i32_w]; rfl
                                               refine pure_ (i := 1) (N := some 121) (v := ?_) (a' := ?_) #[true, true, false, false, false, false, false, false, false, false, false, false, false, false, false, false, false, false, false, false, false, false, false, false, false, false, false, false, false, false, false, false, false, false] rfl rfl (any_of HT_.out (by kernel_rfl)) (fun _ _ _ h => h) (Or.inl ⟨by rfl, ?_⟩) ?_ ?_; rotate_left
                                               · intro w'; go_simp
                                                 with_reducible rfl
                                               rotate_left
                                               · simp only [Act.put, zs1, zs2, zs3, i64_w, i32_w]; rfl
                                               refine pure_ (i := 2) (N := some 122) (v := ?_) (a' := ?_) #[true, true, true, false, false, false, false, false, false, false, false, false, false, false, false, false, false, false, false, false, false, false, false, false, false, false, false, false, false, false, false, false, false, false] rfl rfl (any_of HT_.out (by kernel_rfl)) (fun _ _ _ h => h) (Or.inl ⟨by rfl, ?_⟩) ?_ ?_; rotate_left
                                               · intro w'; go_simp
                                                 with_reducible rfl
                                               rotate_left
                                               · simp only [Act.put, zs1, zs2, zs3, i64_w, i32_w]; rfl
                                               refine pure_ (i := 3) (N := some 123) (v := ?_) (a' := ?_) #[true, true, true, true, false, false, false, false, false, false, false, false, false, false, false, false, false, false, false, false, false, false, false, false, false, false, false, false, false, false, false, false, false, false] rfl rfl (any_of HT_.out (by kernel_rfl)) (fun _ _ _ h => h) (Or.inl ⟨by rfl, ?_⟩) ?_ ?_; rotate_left
                                               · intro w'; go_simp
                                                 with_reducible rfl
                                               rotate_left
                                               · simp only [Act.put, zs1, zs2, zs3, i64_w, i32_w]; rfl
                                               refine pure_ (i := 5) (N := some 125) (v := ?_) (a' := ?_) #[true, true, true, true, false, true, false, false, false, false, false, false, false, false, false, false, false, false, false, false, false, false, false, false, false, false, false, false, false, false, false, false, false, false] rfl rfl (any_of HT_.out (by kernel_rfl)) (fun _ _ _ h => h) (Or.inl ⟨by rfl, ?_⟩) ?_ ?_; rotate_left
                                               · intro w'; go_simp
                                                 with_reducible rfl
                                               rotate_left
                                               · simp only [Act.put, zs1, zs2, zs3, i64_w, i32_w]; rfl
                                               refine pure_ (i := 6) (N := some 126) (v := ?_) (a' := ?_) #[true, true, true, true, false, true, true, false, false, false, false, false, false, false, false, false, false, false, false, false, false, false, false, false, false, false, false, false, false, false, false, false, false, false] rfl rfl (any_of HT_.out (by kernel_rfl)) (fun _ _ _ h => h) (Or.inl ⟨by rfl, ?_⟩) ?_ ?_; rotate_left
                                               · intro w'; go_simp
                                                 with_reducible rfl
                                               rotate_left
                                               · simp only [Act.put, zs1, zs2, zs3, i64_w, i32_w]; rfl
                                               refine pure_ (i := 7) (N := some 127) (v := ?_) (a' := ?_) #[true, true, true, true, false, true, true, true, false, false, false, false, false, false, false, false, false, false, false, false, false, false, false, false, false, false, false, false, false, false, false, false, false, false] rfl rfl (any_of HT_.out (by kernel_rfl)) (fun _ _ _ h => h) (Or.inl ⟨by rfl, ?_⟩) ?_ ?_; rotate_left
                                               · intro w'; go_simp
                                                 with_reducible rfl
                                               rotate_left
                                               · simp only [Act.put, zs1, zs2, zs3, i64_w, i32_w]; rfl
                                               refine take_ (i := 4) (N := some 124) (v := ?_) (a' := ?_) #[true, true, true, true, true, true, true, true, false, false, false, false, false, false, false, false, false, false, false, false, false, false, false, false, false, false, false, false, false, false, false, false, false, false] rfl rfl (take_ofW HT_.out HW_.out (by kernel_rfl)) (fun _ _ _ h => h) (Or.inl ⟨by rfl, ?_⟩) hHeld ?_ ?_; rotate_left
                                               · rintro w' ⟨s0, zs1, zs2, zs3, s4, s5, s6, s7⟩; go_simp
                                                 with_reducible rfl
                                               rotate_left
                                               · simp only [Act.put, zs1, zs2, zs3, i64_w, i32_w]; rfl
                                               refine one_ (i := 8) (N := some 128) #[true, true, true, true, true, true, true, true, true, false, false, false, false, false, false, false, false, false, false, false, false, false, false, false, false, false, false, false, false, false, false, false, false, false] rfl rfl (one_of HT_.out (by kernel_rfl)) (by decide) (fun K hK => ?_); refine goes_ Try.func67 (by kernel_rfl) rfl #[.agg #[.int .i64 ((rd_T78 x11_3 (ji52)).f0), .slice A437_1 ((rd_T78 x11_3 (ji52)).f1).length c437_1], .int .i64 (wrap64 (x15_4 - x19_5))] (by rfl) rfl rfl (by (try simp only [List.map_toArray, List.map_cons, List.map_nil]); first | done | (simp only [hji52]; rfl) | rfl | (simp only [List.length_drop, List.length_take]; rfl)) ?_
                                               with_reducible refine (kimberliteref03_Row_has.calls ((rd_T78 x11_3 (ji52)).f0) _ _ ((rd_T78 x11_3 (ji52)).f1) (wrap64 (x15_4 - x19_5)) true _ ?side1 ?side2 A55.out).mono ?_
                                               (case side1 => exact nT HR437_1); (case side2 => exact HC437_1.out); rintro e w65 ⟨rfl, hb⟩; have HS0_ := (hb.cell (World.block_lt_of_cell? _ _ (hHeld.1))).trans (hHeld.1); have HS1_ := (hb.cell (World.block_lt_of_cell? _ _ (hHeld.2.1))).trans (hHeld.2.1); have HS2_ := (hb.cell (World.block_lt_of_cell? _ _ (hHeld.2.2.1))).trans (hHeld.2.2.1); have HS3_ := (hb.cell (World.block_lt_of_cell? _ _ (hHeld.2.2.2.1))).trans (hHeld.2.2.2.1); have HS4_ := (hb.cell (World.block_lt_of_cell? _ _ (hHeld.2.2.2.2.1))).trans (hHeld.2.2.2.2.1); have HS5_ := (hb.cell (World.block_lt_of_cell? _ _ (hHeld.2.2.2.2.2.1))).trans (hHeld.2.2.2.2.2.1); have HS6_ := (hb.cell (World.block_lt_of_cell? _ _ (hHeld.2.2.2.2.2.2.1))).trans (hHeld.2.2.2.2.2.2.1); have HS7_ := (hb.cell (World.block_lt_of_cell? _ _ (hHeld.2.2.2.2.2.2.2))).trans (hHeld.2.2.2.2.2.2.2); refine ⟨_, rfl, ?_⟩; have n0_ := Aside0.mk (Kd.N_below (nN HO_10) hb); have n1_ := Aside0.mk (Kd.N_below (nN HO_11) hb); have n2_ := Aside0.mk (Kd.R_below (nR HO_14) hb); have n3_ := Aside0.mk (Kd.V_below (nV HL437_1) hb); have n4_ := Aside0.mk (Kd.C_below (nT HR434_1) hb); have n5_ := Aside0.mk (Kd.C_below (nT HR437_1) hb); have n6_ := Aside0.mk (below_step (nC HB) hb); have m0_ := Aside0.mk (Kd.V_below HL439_1.out hb); have m1_ := Aside0.mk (Kd.V_below HL441_1.out hb); have m2_ := Aside0.mk (Kd.V_below HL443_1.out hb); have m3_ := Aside0.mk (Kd.C_below HR439_1.out hb); have m4_ := Aside0.mk (Kd.C_below HR441_1.out hb); have m5_ := Aside0.mk (Kd.C_below HR443_1.out hb); clear HO_10; clear HO_11; clear HO_14; clear HL437_1; clear HR434_1; clear HR437_1; clear HB; have HO_10 := n0_; have HO_11 := n1_; have HO_14 := n2_; have HL437_1 := n3_; have HR434_1 := n4_; have HR437_1 := n5_; have HB := n6_; clear n0_ n1_ n2_ n3_ n4_ n5_ n6_; clear HL439_1 HL441_1 HL443_1 HR439_1 HR441_1 HR443_1; have HL439_1 := m0_; have HL441_1 := m1_; have HL443_1 := m2_; have HR439_1 := m3_; have HR441_1 := m4_; have HR443_1 := m5_; clear m0_ m1_ m2_ m3_ m4_ m5_; (try clear hb); (try clear hb2); (try clear hk); (try clear hi); refine hK.out _ _ ⟨HS0_, HS1_, HS2_, HS3_, HS4_, HS5_, HS6_, HS7_⟩ (fun hHeld => ?_); clear hK K; refine norm_ (a' := ?_) ?_ ?_; rotate_left
                                               · show Act.put _ (some 128) _ = _; simp only [Act.put, zs1, zs2, zs3, i64_w, i32_w]; rfl
                                               refine pure_ (i := 9) (N := some 129) (v := ?_) (a' := ?_) #[true, true, true, true, true, true, true, true, true, true, false, false, false, false, false, false, false, false, false, false, false, false, false, false, false, false, false, false, false, false, false, false, false, false] rfl rfl (any_of HT_.out (by kernel_rfl)) (fun _ _ _ h => h) (Or.inl ⟨by rfl, ?_⟩) ?_ ?_; rotate_left
                                               · intro w'; go_simp
                                                 with_reducible rfl
                                               rotate_left
                                               · simp only [Act.put, zs1, zs2, zs3, i64_w, i32_w]; rfl
                                               refine pure_ (i := 10) (N := some 130) (v := ?_) (a' := ?_) #[true, true, true, true, true, true, true, true, true, true, true, false, false, false, false, false, false, false, false, false, false, false, false, false, false, false, false, false, false, false, false, false, false, false] rfl rfl (any_of HT_.out (by kernel_rfl)) (fun _ _ _ h => h) (Or.inl ⟨by rfl, ?_⟩) ?_ ?_; rotate_left
                                               · intro w'; go_simp
                                                 with_reducible rfl
                                               rotate_left
                                               · simp only [Act.put, zs1, zs2, zs3, i64_w, i32_w]; rfl
                                               refine pure_ (i := 11) (N := some 131) (v := ?_) (a' := ?_) #[true, true, true, true, true, true, true, true, true, true, true, true, false, false, false, false, false, false, false, false, false, false, false, false, false, false, false, false, false, false, false, false, false, false] rfl rfl (any_of HT_.out (by kernel_rfl)) (fun _ _ _ h => h) (Or.inl ⟨by rfl, ?_⟩) ?_ ?_; rotate_left
                                               · intro w'; go_simp
                                                 with_reducible rfl
                                               rotate_left
                                               · simp only [Act.put, zs1, zs2, zs3, i64_w, i32_w]; rfl
                                               refine pure_ (i := 12) (N := some 132) (v := ?_) (a' := ?_) #[true, true, true, true, true, true, true, true, true, true, true, true, true, false, false, false, false, false, false, false, false, false, false, false, false, false, false, false, false, false, false, false, false, false] rfl rfl (any_of HT_.out (by kernel_rfl)) (fun _ _ _ h => h) (Or.inl ⟨by rfl, ?_⟩) ?_ ?_; rotate_left
                                               · intro w'; go_simp
                                                 with_reducible rfl
                                               rotate_left
                                               · simp only [Act.put, zs1, zs2, zs3, i64_w, i32_w]; rfl
                                               refine pure_ (i := 14) (N := some 134) (v := ?_) (a' := ?_) #[true, true, true, true, true, true, true, true, true, true, true, true, true, false, true, false, false, false, false, false, false, false, false, false, false, false, false, false, false, false, false, false, false, false] rfl rfl (any_of HT_.out (by kernel_rfl)) (fun _ _ _ h => h) (Or.inl ⟨by rfl, ?_⟩) ?_ ?_; rotate_left
                                               · intro w'; go_simp
                                                 with_reducible rfl
                                               rotate_left
                                               · simp only [Act.put, zs1, zs2, zs3, i64_w, i32_w]; rfl
                                               refine pure_ (i := 16) (N := some 136) (v := ?_) (a' := ?_) #[true, true, true, true, true, true, true, true, true, true, true, true, true, false, true, false, true, false, false, false, false, false, false, false, false, false, false, false, false, false, false, false, false, false] rfl rfl (any_of HT_.out (by kernel_rfl)) (fun _ _ _ h => h) (Or.inl ⟨by rfl, ?_⟩) ?_ ?_; rotate_left
                                               · intro w'; go_simp
                                                 with_reducible rfl
                                               rotate_left
                                               · simp only [Act.put, zs1, zs2, zs3, i64_w, i32_w]; rfl
                                               refine pure_ (i := 17) (N := some 137) (v := ?_) (a' := ?_) #[true, true, true, true, true, true, true, true, true, true, true, true, true, false, true, false, true, true, false, false, false, false, false, false, false, false, false, false, false, false, false, false, false, false] rfl rfl (any_of HT_.out (by kernel_rfl)) (fun _ _ _ h => h) (Or.inl ⟨by rfl, ?_⟩) ?_ ?_; rotate_left
                                               · intro w'; go_simp
                                                 with_reducible rfl
                                               rotate_left
                                               · simp only [Act.put, zs1, zs2, zs3, i64_w, i32_w]; rfl
                                               refine pure_ (i := 18) (N := some 138) (v := ?_) (a' := ?_) #[true, true, true, true, true, true, true, true, true, true, true, true, true, false, true, false, true, true, true, false, false, false, false, false, false, false, false, false, false, false, false, false, false, false] rfl rfl (any_of HT_.out (by kernel_rfl)) (fun _ _ _ h => h) (Or.inl ⟨by rfl, ?_⟩) ?_ ?_; rotate_left
                                               · intro w'; go_simp
                                                 with_reducible rfl
                                               rotate_left
                                               · simp only [Act.put, zs1, zs2, zs3, i64_w, i32_w]; rfl
                                               refine pure_ (i := 19) (N := some 139) (v := ?_) (a' := ?_) #[true, true, true, true, true, true, true, true, true, true, true, true, true, false, true, false, true, true, true, true, false, false, false, false, false, false, false, false, false, false, false, false, false, false] rfl rfl (any_of HT_.out (by kernel_rfl)) (fun _ _ _ h => h) (Or.inl ⟨by rfl, ?_⟩) ?_ ?_; rotate_left
                                               · intro w'; go_simp
                                                 with_reducible rfl
                                               rotate_left
                                               · simp only [Act.put, zs1, zs2, zs3, i64_w, i32_w]; rfl
                                               refine pure_ (i := 21) (N := some 141) (v := ?_) (a' := ?_) #[true, true, true, true, true, true, true, true, true, true, true, true, true, false, true, false, true, true, true, true, false, true, false, false, false, false, false, false, false, false, false, false, false, false] rfl rfl (any_of HT_.out (by kernel_rfl)) (fun _ _ _ h => h) (Or.inl ⟨by rfl, ?_⟩) ?_ ?_; rotate_left
                                               · intro w'; go_simp
                                                 with_reducible rfl
                                               rotate_left
                                               · simp only [Act.put, zs1, zs2, zs3, i64_w, i32_w]; rfl
                                               refine pure_ (i := 22) (N := some 142) (v := ?_) (a' := ?_) #[true, true, true, true, true, true, true, true, true, true, true, true, true, false, true, false, true, true, true, true, false, true, true, false, false, false, false, false, false, false, false, false, false, false] rfl rfl (any_of HT_.out (by kernel_rfl)) (fun _ _ _ h => h) (Or.inl ⟨by rfl, ?_⟩) ?_ ?_; rotate_left
                                               · intro w'; go_simp
                                                 with_reducible rfl
                                               rotate_left
                                               · simp only [Act.put, zs1, zs2, zs3, i64_w, i32_w]; rfl
                                               refine pure_ (i := 23) (N := some 143) (v := ?_) (a' := ?_) #[true, true, true, true, true, true, true, true, true, true, true, true, true, false, true, false, true, true, true, true, false, true, true, true, false, false, false, false, false, false, false, false, false, false] rfl rfl (any_of HT_.out (by kernel_rfl)) (fun _ _ _ h => h) (Or.inl ⟨by rfl, ?_⟩) ?_ ?_; rotate_left
                                               · intro w'; go_simp
                                                 with_reducible rfl
                                               rotate_left
                                               · simp only [Act.put, zs1, zs2, zs3, i64_w, i32_w]; rfl
                                               refine pure_ (i := 26) (N := some 146) (v := ?_) (a' := ?_) #[true, true, true, true, true, true, true, true, true, true, true, true, true, false, true, false, true, true, true, true, false, true, true, true, false, false, true, false, false, false, false, false, false, false] rfl rfl (any_of HT_.out (by kernel_rfl)) (fun _ _ _ h => h) (Or.inl ⟨by rfl, ?_⟩) ?_ ?_; rotate_left
                                               · intro w'; go_simp
                                                 with_reducible rfl
                                               rotate_left
                                               · simp only [Act.put, zs1, zs2, zs3, i64_w, i32_w]; rfl
                                               refine pure_ (i := 27) (N := some 147) (v := ?_) (a' := ?_) #[true, true, true, true, true, true, true, true, true, true, true, true, true, false, true, false, true, true, true, true, false, true, true, true, false, false, true, true, false, false, false, false, false, false] rfl rfl (any_of HT_.out (by kernel_rfl)) (fun _ _ _ h => h) (Or.inl ⟨by rfl, ?_⟩) ?_ ?_; rotate_left
                                               · intro w'; go_simp
                                                 with_reducible rfl
                                               rotate_left
                                               · simp only [Act.put, zs1, zs2, zs3, i64_w, i32_w]; rfl
                                               refine pure_ (i := 28) (N := some 148) (v := ?_) (a' := ?_) #[true, true, true, true, true, true, true, true, true, true, true, true, true, false, true, false, true, true, true, true, false, true, true, true, false, false, true, true, true, false, false, false, false, false] rfl rfl (any_of HT_.out (by kernel_rfl)) (fun _ _ _ h => h) (Or.inl ⟨by rfl, ?_⟩) ?_ ?_; rotate_left
                                               · intro w'; go_simp
                                                 with_reducible rfl
                                               rotate_left
                                               · simp only [Act.put, zs1, zs2, zs3, i64_w, i32_w]; rfl
                                               refine pure_ (i := 30) (N := some 150) (v := ?_) (a' := ?_) #[true, true, true, true, true, true, true, true, true, true, true, true, true, false, true, false, true, true, true, true, false, true, true, true, false, false, true, true, true, false, true, false, false, false] rfl rfl (any_of HT_.out (by kernel_rfl)) (fun _ _ _ h => h) (Or.inl ⟨by rfl, ?_⟩) ?_ ?_; rotate_left
                                               · intro w'; go_simp
                                                 with_reducible rfl
                                               rotate_left
                                               · simp only [Act.put, zs1, zs2, zs3, i64_w, i32_w]; rfl
                                               refine take_ (i := 13) (N := some 133) (v := ?_) (a' := ?_) #[true, true, true, true, true, true, true, true, true, true, true, true, true, true, true, false, true, true, true, true, false, true, true, true, false, false, true, true, true, false, true, false, false, false] rfl rfl (take_ofW HT_.out HW_.out (by kernel_rfl)) (fun _ _ _ h => h) (Or.inl ⟨by rfl, ?_⟩) hHeld ?_ ?_; rotate_left
                                               · rintro w' ⟨s0, zs1, zs2, zs3, s4, s5, s6, s7⟩; go_simp
                                                 with_reducible rfl
                                               rotate_left
                                               · simp only [Act.put, zs1, zs2, zs3, i64_w, i32_w]; rfl
                                               refine take_ (i := 20) (N := some 140) (v := ?_) (a' := ?_) #[true, true, true, true, true, true, true, true, true, true, true, true, true, true, true, false, true, true, true, true, true, true, true, true, false, false, true, true, true, false, true, false, false, false] rfl rfl (take_ofW HT_.out HW_.out (by kernel_rfl)) (fun _ _ _ h => h) (Or.inl ⟨by rfl, ?_⟩) hHeld ?_ ?_; rotate_left
                                               · rintro w' ⟨s0, zs1, zs2, zs3, s4, s5, s6, s7⟩; go_simp
                                                 with_reducible rfl
                                               rotate_left
                                               · simp only [Act.put, zs1, zs2, zs3, i64_w, i32_w]; rfl
                                               refine take_ (i := 29) (N := some 149) (v := ?_) (a' := ?_) #[true, true, true, true, true, true, true, true, true, true, true, true, true, true, true, false, true, true, true, true, true, true, true, true, false, false, true, true, true, true, true, false, false, false] rfl rfl (take_ofW HT_.out HW_.out (by kernel_rfl)) (fun _ _ _ h => h) (Or.inl ⟨by rfl, ?_⟩) hHeld ?_ ?_; rotate_left
                                               · rintro w' ⟨s0, zs1, zs2, zs3, s4, s5, s6, s7⟩; go_simp
                                                 with_reducible rfl
                                               rotate_left
                                               · simp only [Act.put, zs1, zs2, zs3, i64_w, i32_w]; rfl
                                               refine one_ (i := 15) (N := some 135) #[true, true, true, true, true, true, true, true, true, true, true, true, true, true, true, true, true, true, true, true, true, true, true, true, false, false, true, true, true, true, true, false, false, false] rfl rfl (one_of HT_.out (by kernel_rfl)) (by decide) (fun K hK => ?_); refine gO Try.func68 #[.agg #[.int .i64 ((rd_T78 x10_1 x17_4).f0), .slice A439_1 ((rd_T78 x10_1 x17_4).f1).length c439_1], .int .i64 x19_5] ?_
                                               with_reducible refine (kimberliteref03_Row_Value.calls ((rd_T78 x10_1 x17_4).f0) _ _ ((rd_T78 x10_1 x17_4).f1) x19_5 t440 _ ?side1 ?side2 A59.out).mono ?_
                                               (case side1 => exact nT HR439_1); (case side2 => exact HC439_1.out); rintro e w66 ⟨rfl, hb⟩; have HS0_ := (hb.cell (World.block_lt_of_cell? _ _ (hHeld.1))).trans (hHeld.1); have HS1_ := (hb.cell (World.block_lt_of_cell? _ _ (hHeld.2.1))).trans (hHeld.2.1); have HS2_ := (hb.cell (World.block_lt_of_cell? _ _ (hHeld.2.2.1))).trans (hHeld.2.2.1); have HS3_ := (hb.cell (World.block_lt_of_cell? _ _ (hHeld.2.2.2.1))).trans (hHeld.2.2.2.1); have HS4_ := (hb.cell (World.block_lt_of_cell? _ _ (hHeld.2.2.2.2.1))).trans (hHeld.2.2.2.2.1); have HS5_ := (hb.cell (World.block_lt_of_cell? _ _ (hHeld.2.2.2.2.2.1))).trans (hHeld.2.2.2.2.2.1); have HS6_ := (hb.cell (World.block_lt_of_cell? _ _ (hHeld.2.2.2.2.2.2.1))).trans (hHeld.2.2.2.2.2.2.1); have HS7_ := (hb.cell (World.block_lt_of_cell? _ _ (hHeld.2.2.2.2.2.2.2))).trans (hHeld.2.2.2.2.2.2.2); refine ⟨_, rfl, ?_⟩; have n0_ := Aside0.mk (Kd.N_below (nN HO_10) hb); have n1_ := Aside0.mk (Kd.N_below (nN HO_11) hb); have n2_ := Aside0.mk (Kd.R_below (nR HO_14) hb); have n3_ := Aside0.mk (Kd.V_below (nV HL437_1) hb); have n4_ := Aside0.mk (Kd.V_below (nV HL439_1) hb); have n5_ := Aside0.mk (Kd.C_below (nT HR434_1) hb); have n6_ := Aside0.mk (Kd.C_below (nT HR437_1) hb); have n7_ := Aside0.mk (Kd.C_below (nT HR439_1) hb); have n8_ := Aside0.mk (below_step (nC HB) hb); have m0_ := Aside0.mk (Kd.V_below HL441_1.out hb); have m1_ := Aside0.mk (Kd.V_below HL443_1.out hb); have m2_ := Aside0.mk (Kd.C_below HR441_1.out hb); have m3_ := Aside0.mk (Kd.C_below HR443_1.out hb); clear HO_10; clear HO_11; clear HO_14; clear HL437_1; clear HL439_1; clear HR434_1; clear HR437_1; clear HR439_1; clear HB; have HO_10 := n0_; have HO_11 := n1_; have HO_14 := n2_; have HL437_1 := n3_; have HL439_1 := n4_; have HR434_1 := n5_; have HR437_1 := n6_; have HR439_1 := n7_; have HB := n8_; clear n0_ n1_ n2_ n3_ n4_ n5_ n6_ n7_ n8_; clear HL441_1 HL443_1 HR441_1 HR443_1; have HL441_1 := m0_; have HL443_1 := m1_; have HR441_1 := m2_; have HR443_1 := m3_; clear m0_ m1_ m2_ m3_; (try clear hb); (try clear hb2); (try clear hk); (try clear hi); refine hK.out _ _ ⟨HS0_, HS1_, HS2_, HS3_, HS4_, HS5_, HS6_, HS7_⟩ (fun hHeld => ?_); clear hK K; refine norm_ (a' := ?_) ?_ ?_; rotate_left
                                               · show Act.put _ (some 135) _ = _; simp only [Act.put, zs1, zs2, zs3, i64_w, i32_w]; rfl
                                               refine one_ (i := 24) (N := some 144) #[true, true, true, true, true, true, true, true, true, true, true, true, true, true, true, true, true, true, true, true, true, true, true, true, true, false, true, true, true, true, true, false, false, false] rfl rfl (one_of HT_.out (by kernel_rfl)) (by decide) (fun K hK => ?_); refine goes_ Try.func68 (by kernel_rfl) rfl #[.agg #[.int .i64 ((rd_T78 x11_3 (ji52)).f0), .slice A437_1 ((rd_T78 x11_3 (ji52)).f1).length c437_1], .int .i64 (wrap64 (x15_4 - x19_5))] (by rfl) rfl rfl (by (try simp only [List.map_toArray, List.map_cons, List.map_nil]); first | done | (simp only [hji52]; rfl) | rfl | (simp only [List.length_drop, List.length_take]; rfl)) ?_
                                               with_reducible refine (kimberliteref03_Row_Value.calls ((rd_T78 x11_3 (ji52)).f0) _ _ ((rd_T78 x11_3 (ji52)).f1) (wrap64 (x15_4 - x19_5)) t442 _ ?side1 ?side2 A60.out).mono ?_
                                               (case side1 => exact nT HR441_1); (case side2 => exact HC441_1.out); rintro e w67 ⟨rfl, hb⟩; have HS0_ := (hb.cell (World.block_lt_of_cell? _ _ (hHeld.1))).trans (hHeld.1); have HS1_ := (hb.cell (World.block_lt_of_cell? _ _ (hHeld.2.1))).trans (hHeld.2.1); have HS2_ := (hb.cell (World.block_lt_of_cell? _ _ (hHeld.2.2.1))).trans (hHeld.2.2.1); have HS3_ := (hb.cell (World.block_lt_of_cell? _ _ (hHeld.2.2.2.1))).trans (hHeld.2.2.2.1); have HS4_ := (hb.cell (World.block_lt_of_cell? _ _ (hHeld.2.2.2.2.1))).trans (hHeld.2.2.2.2.1); have HS5_ := (hb.cell (World.block_lt_of_cell? _ _ (hHeld.2.2.2.2.2.1))).trans (hHeld.2.2.2.2.2.1); have HS6_ := (hb.cell (World.block_lt_of_cell? _ _ (hHeld.2.2.2.2.2.2.1))).trans (hHeld.2.2.2.2.2.2.1); have HS7_ := (hb.cell (World.block_lt_of_cell? _ _ (hHeld.2.2.2.2.2.2.2))).trans (hHeld.2.2.2.2.2.2.2); refine ⟨_, rfl, ?_⟩; have n0_ := Aside0.mk (Kd.N_below (nN HO_10) hb); have n1_ := Aside0.mk (Kd.N_below (nN HO_11) hb); have n2_ := Aside0.mk (Kd.R_below (nR HO_14) hb); have n3_ := Aside0.mk (Kd.V_below (nV HL437_1) hb); have n4_ := Aside0.mk (Kd.V_below (nV HL439_1) hb); have n5_ := Aside0.mk (Kd.V_below (nV HL441_1) hb); have n6_ := Aside0.mk (Kd.C_below (nT HR434_1) hb); have n7_ := Aside0.mk (Kd.C_below (nT HR437_1) hb); have n8_ := Aside0.mk (Kd.C_below (nT HR439_1) hb); have n9_ := Aside0.mk (Kd.C_below (nT HR441_1) hb); have n10_ := Aside0.mk (below_step (nC HB) hb); have m0_ := Aside0.mk (Kd.V_below HL443_1.out hb); have m1_ := Aside0.mk (Kd.C_below HR443_1.out hb); clear HO_10; clear HO_11; clear HO_14; clear HL437_1; clear HL439_1; clear HL441_1; clear HR434_1; clear HR437_1; clear HR439_1; clear HR441_1; clear HB; have HO_10 := n0_; have HO_11 := n1_; have HO_14 := n2_; have HL437_1 := n3_; have HL439_1 := n4_; have HL441_1 := n5_; have HR434_1 := n6_; have HR437_1 := n7_; have HR439_1 := n8_; have HR441_1 := n9_; have HB := n10_; clear n0_ n1_ n2_ n3_ n4_ n5_ n6_ n7_ n8_ n9_ n10_; clear HL443_1 HR443_1; have HL443_1 := m0_; have HR443_1 := m1_; clear m0_ m1_; (try clear hb); (try clear hb2); (try clear hk); (try clear hi); refine hK.out _ _ ⟨HS0_, HS1_, HS2_, HS3_, HS4_, HS5_, HS6_, HS7_⟩ (fun hHeld => ?_); clear hK K; refine norm_ (a' := ?_) ?_ ?_; rotate_left
                                               · show Act.put _ (some 144) _ = _; simp only [Act.put, zs1, zs2, zs3, i64_w, i32_w]; rfl
                                               refine pure_ (i := 25) (N := some 145) (v := ?_) (a' := ?_) #[true, true, true, true, true, true, true, true, true, true, true, true, true, true, true, true, true, true, true, true, true, true, true, true, true, true, true, true, true, true, true, false, false, false] rfl rfl (any_of HT_.out (by kernel_rfl)) (fun _ _ _ h => h) (Or.inl ⟨by rfl, ?_⟩) ?_ ?_; rotate_left
                                               · intro w'; go_simp
                                                 with_reducible rfl
                                               rotate_left
                                               · simp only [Act.put, zs1, zs2, zs3, i64_w, i32_w]; rfl
                                               refine one_ (i := 31) (N := some 151) #[true, true, true, true, true, true, true, true, true, true, true, true, true, true, true, true, true, true, true, true, true, true, true, true, true, true, true, true, true, true, true, true, false, false] rfl rfl (one_of HT_.out (by kernel_rfl)) (by decide) (fun K hK => ?_); refine gO Try.func68 #[.agg #[.int .i64 ((rd_T78 x11_3 x17_4).f0), .slice A443_1 ((rd_T78 x11_3 x17_4).f1).length c443_1], .int .i64 x15_4] ?_
                                               with_reducible refine (kimberliteref03_Row_Value.calls ((rd_T78 x11_3 x17_4).f0) _ _ ((rd_T78 x11_3 x17_4).f1) x15_4 t444 _ ?side1 ?side2 A62.out).mono ?_
                                               (case side1 => exact nT HR443_1); (case side2 => exact HC443_1.out); rintro e w68 ⟨rfl, hb⟩; have HS0_ := (hb.cell (World.block_lt_of_cell? _ _ (hHeld.1))).trans (hHeld.1); have HS1_ := (hb.cell (World.block_lt_of_cell? _ _ (hHeld.2.1))).trans (hHeld.2.1); have HS2_ := (hb.cell (World.block_lt_of_cell? _ _ (hHeld.2.2.1))).trans (hHeld.2.2.1); have HS3_ := (hb.cell (World.block_lt_of_cell? _ _ (hHeld.2.2.2.1))).trans (hHeld.2.2.2.1); have HS4_ := (hb.cell (World.block_lt_of_cell? _ _ (hHeld.2.2.2.2.1))).trans (hHeld.2.2.2.2.1); have HS5_ := (hb.cell (World.block_lt_of_cell? _ _ (hHeld.2.2.2.2.2.1))).trans (hHeld.2.2.2.2.2.1); have HS6_ := (hb.cell (World.block_lt_of_cell? _ _ (hHeld.2.2.2.2.2.2.1))).trans (hHeld.2.2.2.2.2.2.1); have HS7_ := (hb.cell (World.block_lt_of_cell? _ _ (hHeld.2.2.2.2.2.2.2))).trans (hHeld.2.2.2.2.2.2.2); refine ⟨_, rfl, ?_⟩; replace HO_10 := Aside0.mk (Kd.N_below (nN HO_10) hb); replace HO_11 := Aside0.mk (Kd.N_below (nN HO_11) hb); replace HO_14 := Aside0.mk (Kd.R_below (nR HO_14) hb); replace HL437_1 := Aside0.mk (Kd.V_below (nV HL437_1) hb); replace HL439_1 := Aside0.mk (Kd.V_below (nV HL439_1) hb); replace HL441_1 := Aside0.mk (Kd.V_below (nV HL441_1) hb); replace HL443_1 := Aside0.mk (Kd.V_below (nV HL443_1) hb); replace HR434_1 := Aside0.mk (Kd.C_below (nT HR434_1) hb); replace HR437_1 := Aside0.mk (Kd.C_below (nT HR437_1) hb); replace HR439_1 := Aside0.mk (Kd.C_below (nT HR439_1) hb); replace HR441_1 := Aside0.mk (Kd.C_below (nT HR441_1) hb); replace HR443_1 := Aside0.mk (Kd.C_below (nT HR443_1) hb); replace HB := Aside0.mk (below_step (nC HB) hb); (try clear hb); (try clear hb2); (try clear hk); (try clear hi); refine hK.out _ _ ⟨HS0_, HS1_, HS2_, HS3_, HS4_, HS5_, HS6_, HS7_⟩ (fun hHeld => ?_); clear hK K; refine norm_ (a' := ?_) ?_ ?_; rotate_left
                                               · show Act.put _ (some 151) _ = _; simp only [Act.put, zs1, zs2, zs3, i64_w, i32_w]; rfl
                                               refine pure_ (i := 32) (N := some 152) (v := ?_) (a' := ?_) #[true, true, true, true, true, true, true, true, true, true, true, true, true, true, true, true, true, true, true, true, true, true, true, true, true, true, true, true, true, true, true, true, true, false] rfl rfl (any_of HT_.out (by kernel_rfl)) (fun _ _ _ h => h) (Or.inl ⟨by rfl, ?_⟩) ?_ ?_; rotate_left
                                               · intro w'; go_simp
                                                 with_reducible rfl
                                               rotate_left
                                               · simp only [Act.put, zs1, zs2, zs3, i64_w, i32_w]; rfl
                                               refine pure_ (i := 33) (N := some 153) (v := ?_) (a' := ?_) #[true, true, true, true, true, true, true, true, true, true, true, true, true, true, true, true, true, true, true, true, true, true, true, true, true, true, true, true, true, true, true, true, true, true] rfl rfl (any_of HT_.out (by kernel_rfl)) (fun _ _ _ h => h) (Or.inl ⟨by rfl, ?_⟩) ?_ ?_; rotate_left
                                               · intro w'; go_simp
                                                 with_reducible rfl
                                               rotate_left
                                               · simp only [Act.put, zs1, zs2, zs3, i64_w, i32_w]; rfl
                                               refine done_ (done_of HT_.out (by kernel_rfl)) ?_; try go_wp2
                                               go_meet
                                               case rel => exact ⟨_, (((wrap64 (t440 + t442)) == t444)), (by first | rfl | (simp; done) | (simp [*]; done)), H', ⟨by have := HK1.out; have := HJ19.out; have := HK3.out; have := HK4.out; have := HK5.out; have := HJ42.out; first | omega | exact Nat.le_refl _⟩, ⟨nN HO_10⟩, ⟨nN HO_11⟩, ⟨nR HO_14⟩, ⟨by repeat (first | (with_reducible exact HR434_1.out) | (with_reducible refine Kd.C_alloc ?_ _) | (with_reducible refine Kd.C_drewN ?_ _) | (with_reducible refine Kd.C_drew ?_) | exact HR434_1.out)⟩, ⟨nC HB⟩⟩
                                             · rw [if_neg c61] at H; exact absurd H (by simp)
                                           · rw [if_neg c58] at H; exact absurd H (by simp)
                                         · rw [if_neg c57] at H; exact absurd H (by simp)
                                       · replace c56 := Bool.eq_false_iff.mpr c56; subst c56; replace H : (kimberliteref03_Split.j6 kj42 l0 a1 x10_1 x11_3 x14_4 x15_4 x16_4 x17_4 x18_5 x19_5 false) = some (r1, r2, r3, r4) := by rw [if_neg (show ¬ (false = true) by decide)] at H; exact H
                                         have H' := Aside0.mk H; clear H; try go_wp2
                                         replace HO_10 := Aside0.mk (Kd.N_drew HO_10.out); replace HO_11 := Aside0.mk (Kd.N_drew HO_11.out); replace HO_14 := Aside0.mk (Kd.R_drew HO_14.out); replace HR434_1 := Aside0.mk (Kd.C_drew HR434_1.out); replace HB := Aside0.mk (below_drew1 HB.out); obtain ⟨Ao70, co70, eo70⟩ := Kd.N_slice HO_11.out; (first | subst eo70 | (injection eo70 with f1_ f2_ f3_; have f4_ := f1_.symm; have f5_ := f3_.symm; clear f1_ f2_ f3_; subst f4_; subst f5_)); have p437 : 0 ≤ ((ji52) : Int) := of_decide_eq_true (by first | (with_reducible assumption) | assumption); have q437 : (ji52) < (x11_3.length : Int) := of_decide_eq_true (by first | (with_reducible assumption) | assumption); obtain ⟨ad437, A437_1, c437_1, e437, hx437_0, hx437_1, hl437_1, hi437_1⟩ := at_T78 (Kd.N_reads' HO_11.out).2.2 (ji52) p437 q437
                                         cases e437
                                         obtain ⟨ce437, hce437, hMe437, hcc437⟩ := Kd.N_get HO_11.out z78 (ji52) p437 (by first | exact q437 | exact of_decide_eq_true (by first | (with_reducible assumption) | assumption) | (have e_ := (Kd.N_reads' HO_11.out).1; omega)); obtain ⟨ua437_1, uc437_1, rfl, ul437_1, ge437_1⟩ := k78_openF hMe437; have hv437_1 := hcc437 1 _ rfl; rw [add_field _ _ 1 (by omega)] at hv437_1; replace hv437_1 := Option.some.inj (hv437_1.symm.trans hx437_1); injection hv437_1 with hva_ hvn_ hvc_
                                         rw [hva_] at ge437_1; rw [hvc_] at ul437_1; have HL437_1 := Aside0.mk (show Kd.V (Kd.int .i64) 3 _ w.heap.size _ _ ((rd_T78 x11_3 (ji52)).f1) from Kd.V_mk ul437_1 ge437_1); clear hva_ hvn_ hvc_ ge437_1 ul437_1; clear hcc437 hce437; have HR437_1 := Aside0.mk hi437_1; have HC437_1 := Aside0.mk hl437_1; clear hi437_1 hl437_1; replace p437 := eq_true p437; replace q437 := eq_true q437; refine start_ (n := 34) (S := fun w' => w'.cell? (ad437.add (((ji52)).toNat * 2)) = some (.int .i64 ((rd_T78 x11_3 (ji52)).f0)) ∧ w'.cell? ⟨(ad437.add (((ji52)).toNat * 2)).block, (ad437.add (((ji52)).toNat * 2)).off + 1, none⟩ = some (.slice A437_1 ((rd_T78 x11_3 (ji52)).f1).length c437_1)) (ds := []) #[false, false, false, false, false, false, false, false, false, false, false, false, false, false, false, false, false, false, false, false, false, false, false, false, false, false, false, false, false, false, false, false, false, false] (by kernel_rfl) rfl rfl ⟨hx437_0, hx437_1⟩ (fun hHeld => ?_); refine with_tabW kimberliteref03_Split.tab31 kimberliteref03_Split.bits31 (fun HT_ HW_ => ?_); generalize wc.drew = w69 at HO_10 HO_11 HO_14 HR434_1 HB HL437_1 HR437_1 hx437_0 hx437_1 hHeld ⊢; refine pure_ (i := 0) (N := some 120) (v := ?_) (a' := ?_) #[true, false, false, false, false, false, false, false, false, false, false, false, false, false, false, false, false, false, false, false, false, false, false, false, false, false, false, false, false, false, false, false, false, false] rfl rfl (any_of HT_.out (by kernel_rfl)) (fun _ _ _ h => h) (Or.inl ⟨by rfl, ?_⟩) ?_ ?_; rotate_left
                                         · intro w'; go_simp
                                           with_reducible rfl
                                         rotate_left
                                         · simp only [Act.put, zs1, zs2, zs3, i64_w, i32_w]; rfl
                                         refine pure_ (i := 1) (N := some 121) (v := ?_) (a' := ?_) #[true, true, false, false, false, false, false, false, false, false, false, false, false, false, false, false, false, false, false, false, false, false, false, false, false, false, false, false, false, false, false, false, false, false] rfl rfl (any_of HT_.out (by kernel_rfl)) (fun _ _ _ h => h) (Or.inl ⟨by rfl, ?_⟩) ?_ ?_; rotate_left
                                         · intro w'; go_simp
                                           with_reducible rfl
                                         rotate_left
                                         · simp only [Act.put, zs1, zs2, zs3, i64_w, i32_w]; rfl
                                         refine pure_ (i := 2) (N := some 122) (v := ?_) (a' := ?_) #[true, true, true, false, false, false, false, false, false, false, false, false, false, false, false, false, false, false, false, false, false, false, false, false, false, false, false, false, false, false, false, false, false, false] rfl rfl (any_of HT_.out (by kernel_rfl)) (fun _ _ _ h => h) (Or.inl ⟨by rfl, ?_⟩) ?_ ?_; rotate_left
                                         · intro w'; go_simp
                                           with_reducible rfl
                                         rotate_left
                                         · simp only [Act.put, zs1, zs2, zs3, i64_w, i32_w]; rfl
                                         refine pure_ (i := 3) (N := some 123) (v := ?_) (a' := ?_) #[true, true, true, true, false, false, false, false, false, false, false, false, false, false, false, false, false, false, false, false, false, false, false, false, false, false, false, false, false, false, false, false, false, false] rfl rfl (any_of HT_.out (by kernel_rfl)) (fun _ _ _ h => h) (Or.inl ⟨by rfl, ?_⟩) ?_ ?_; rotate_left
                                         · intro w'; go_simp
                                           with_reducible rfl
                                         rotate_left
                                         · simp only [Act.put, zs1, zs2, zs3, i64_w, i32_w]; rfl
                                         refine pure_ (i := 5) (N := some 125) (v := ?_) (a' := ?_) #[true, true, true, true, false, true, false, false, false, false, false, false, false, false, false, false, false, false, false, false, false, false, false, false, false, false, false, false, false, false, false, false, false, false] rfl rfl (any_of HT_.out (by kernel_rfl)) (fun _ _ _ h => h) (Or.inl ⟨by rfl, ?_⟩) ?_ ?_; rotate_left
                                         · intro w'; go_simp
                                           with_reducible rfl
                                         rotate_left
                                         · simp only [Act.put, zs1, zs2, zs3, i64_w, i32_w]; rfl
                                         refine pure_ (i := 6) (N := some 126) (v := ?_) (a' := ?_) #[true, true, true, true, false, true, true, false, false, false, false, false, false, false, false, false, false, false, false, false, false, false, false, false, false, false, false, false, false, false, false, false, false, false] rfl rfl (any_of HT_.out (by kernel_rfl)) (fun _ _ _ h => h) (Or.inl ⟨by rfl, ?_⟩) ?_ ?_; rotate_left
                                         · intro w'; go_simp
                                           with_reducible rfl
                                         rotate_left
                                         · simp only [Act.put, zs1, zs2, zs3, i64_w, i32_w]; rfl
                                         refine pure_ (i := 7) (N := some 127) (v := ?_) (a' := ?_) #[true, true, true, true, false, true, true, true, false, false, false, false, false, false, false, false, false, false, false, false, false, false, false, false, false, false, false, false, false, false, false, false, false, false] rfl rfl (any_of HT_.out (by kernel_rfl)) (fun _ _ _ h => h) (Or.inl ⟨by rfl, ?_⟩) ?_ ?_; rotate_left
                                         · intro w'; go_simp
                                           with_reducible rfl
                                         rotate_left
                                         · simp only [Act.put, zs1, zs2, zs3, i64_w, i32_w]; rfl
                                         refine take_ (i := 4) (N := some 124) (v := ?_) (a' := ?_) #[true, true, true, true, true, true, true, true, false, false, false, false, false, false, false, false, false, false, false, false, false, false, false, false, false, false, false, false, false, false, false, false, false, false] rfl rfl (take_ofW HT_.out HW_.out (by kernel_rfl)) (fun _ _ _ h => h) (Or.inl ⟨by rfl, ?_⟩) hHeld ?_ ?_; rotate_left
                                         · rintro w' ⟨s0, s1⟩; go_simp
                                           with_reducible rfl
                                         rotate_left
                                         · simp only [Act.put, zs1, zs2, zs3, i64_w, i32_w]; rfl
                                         refine one_ (i := 8) (N := some 128) #[true, true, true, true, true, true, true, true, true, false, false, false, false, false, false, false, false, false, false, false, false, false, false, false, false, false, false, false, false, false, false, false, false, false] rfl rfl (one_of HT_.out (by kernel_rfl)) (by decide) (fun K hK => ?_); refine goes_ Try.func67 (by kernel_rfl) rfl #[.agg #[.int .i64 ((rd_T78 x11_3 (ji52)).f0), .slice A437_1 ((rd_T78 x11_3 (ji52)).f1).length c437_1], .int .i64 (wrap64 (x15_4 - x19_5))] (by rfl) rfl rfl (by (try simp only [List.map_toArray, List.map_cons, List.map_nil]); first | done | (simp only [hji52]; rfl) | rfl | (simp only [List.length_drop, List.length_take]; rfl)) ?_
                                         with_reducible refine (kimberliteref03_Row_has.calls ((rd_T78 x11_3 (ji52)).f0) _ _ ((rd_T78 x11_3 (ji52)).f1) (wrap64 (x15_4 - x19_5)) false _ ?side1 ?side2 A55.out).mono ?_
                                         (case side1 => exact nT HR437_1); (case side2 => exact HC437_1.out); rintro e w71 ⟨rfl, hb⟩; have HS0_ := (hb.cell (World.block_lt_of_cell? _ _ (hHeld.1))).trans (hHeld.1); have HS1_ := (hb.cell (World.block_lt_of_cell? _ _ (hHeld.2))).trans (hHeld.2); refine ⟨_, rfl, ?_⟩; replace HO_10 := Aside0.mk (Kd.N_below (nN HO_10) hb); replace HO_11 := Aside0.mk (Kd.N_below (nN HO_11) hb); replace HO_14 := Aside0.mk (Kd.R_below (nR HO_14) hb); replace HL437_1 := Aside0.mk (Kd.V_below (nV HL437_1) hb); replace HR434_1 := Aside0.mk (Kd.C_below (nT HR434_1) hb); replace HR437_1 := Aside0.mk (Kd.C_below (nT HR437_1) hb); replace HB := Aside0.mk (below_step (nC HB) hb); (try clear hb); (try clear hb2); (try clear hk); (try clear hi); refine hK.out _ _ ⟨HS0_, HS1_⟩ (fun hHeld => ?_); clear hK K; refine norm_ (a' := ?_) ?_ ?_; rotate_left
                                         · show Act.put _ (some 128) _ = _; simp only [Act.put, zs1, zs2, zs3, i64_w, i32_w]; rfl
                                         refine pure_ (i := 9) (N := some 129) (v := ?_) (a' := ?_) #[true, true, true, true, true, true, true, true, true, true, false, false, false, false, false, false, false, false, false, false, false, false, false, false, false, false, false, false, false, false, false, false, false, false] rfl rfl (any_of HT_.out (by kernel_rfl)) (fun _ _ _ h => h) (Or.inl ⟨by rfl, ?_⟩) ?_ ?_; rotate_left
                                         · intro w'; go_simp
                                           with_reducible rfl
                                         rotate_left
                                         · simp only [Act.put, zs1, zs2, zs3, i64_w, i32_w]; rfl
                                         refine pure_ (i := 10) (N := some 130) (v := undef) (a' := ?_) #[true, true, true, true, true, true, true, true, true, true, true, false, false, false, false, false, false, false, false, false, false, false, false, false, false, false, false, false, false, false, false, false, false, false] rfl rfl (any_of HT_.out (by kernel_rfl)) (fun _ _ _ h => h) (Or.inr ⟨by rfl, rfl⟩) ?_ ?_; rotate_left
                                         · simp only [Act.put, zs1, zs2, zs3, i64_w, i32_w]; rfl
                                         refine pure_ (i := 11) (N := some 131) (v := undef) (a' := ?_) #[true, true, true, true, true, true, true, true, true, true, true, true, false, false, false, false, false, false, false, false, false, false, false, false, false, false, false, false, false, false, false, false, false, false] rfl rfl (any_of HT_.out (by kernel_rfl)) (fun _ _ _ h => h) (Or.inr ⟨by rfl, rfl⟩) ?_ ?_; rotate_left
                                         · simp only [Act.put, zs1, zs2, zs3, i64_w, i32_w]; rfl
                                         refine pure_ (i := 12) (N := some 132) (v := undef) (a' := ?_) #[true, true, true, true, true, true, true, true, true, true, true, true, true, false, false, false, false, false, false, false, false, false, false, false, false, false, false, false, false, false, false, false, false, false] rfl rfl (any_of HT_.out (by kernel_rfl)) (fun _ _ _ h => h) (Or.inr ⟨by rfl, rfl⟩) ?_ ?_; rotate_left
                                         · simp only [Act.put, zs1, zs2, zs3, i64_w, i32_w]; rfl
                                         refine pure_ (i := 13) (N := some 133) (v := undef) (a' := ?_) #[true, true, true, true, true, true, true, true, true, true, true, true, true, true, false, false, false, false, false, false, false, false, false, false, false, false, false, false, false, false, false, false, false, false] rfl rfl (any_of HT_.out (by kernel_rfl)) (fun _ _ _ h => h) (Or.inr ⟨by rfl, rfl⟩) ?_ ?_; rotate_left
                                         · simp only [Act.put, zs1, zs2, zs3, i64_w, i32_w]; rfl
                                         refine pure_ (i := 14) (N := some 134) (v := undef) (a' := ?_) #[true, true, true, true, true, true, true, true, true, true, true, true, true, true, true, false, false, false, false, false, false, false, false, false, false, false, false, false, false, false, false, false, false, false] rfl rfl (any_of HT_.out (by kernel_rfl)) (fun _ _ _ h => h) (Or.inr ⟨by rfl, rfl⟩) ?_ ?_; rotate_left
                                         · simp only [Act.put, zs1, zs2, zs3, i64_w, i32_w]; rfl
                                         refine pure_ (i := 15) (N := some 135) (v := undef) (a' := ?_) #[true, true, true, true, true, true, true, true, true, true, true, true, true, true, true, true, false, false, false, false, false, false, false, false, false, false, false, false, false, false, false, false, false, false] rfl rfl (any_of HT_.out (by kernel_rfl)) (fun _ _ _ h => h) (Or.inr ⟨by rfl, rfl⟩) ?_ ?_; rotate_left
                                         · simp only [Act.put, zs1, zs2, zs3, i64_w, i32_w]; rfl
                                         refine pure_ (i := 16) (N := some 136) (v := undef) (a' := ?_) #[true, true, true, true, true, true, true, true, true, true, true, true, true, true, true, true, true, false, false, false, false, false, false, false, false, false, false, false, false, false, false, false, false, false] rfl rfl (any_of HT_.out (by kernel_rfl)) (fun _ _ _ h => h) (Or.inr ⟨by rfl, rfl⟩) ?_ ?_; rotate_left
                                         · simp only [Act.put, zs1, zs2, zs3, i64_w, i32_w]; rfl
                                         refine pure_ (i := 17) (N := some 137) (v := undef) (a' := ?_) #[true, true, true, true, true, true, true, true, true, true, true, true, true, true, true, true, true, true, false, false, false, false, false, false, false, false, false, false, false, false, false, false, false, false] rfl rfl (any_of HT_.out (by kernel_rfl)) (fun _ _ _ h => h) (Or.inr ⟨by rfl, rfl⟩) ?_ ?_; rotate_left
                                         · simp only [Act.put, zs1, zs2, zs3, i64_w, i32_w]; rfl
                                         refine pure_ (i := 18) (N := some 138) (v := undef) (a' := ?_) #[true, true, true, true, true, true, true, true, true, true, true, true, true, true, true, true, true, true, true, false, false, false, false, false, false, false, false, false, false, false, false, false, false, false] rfl rfl (any_of HT_.out (by kernel_rfl)) (fun _ _ _ h => h) (Or.inr ⟨by rfl, rfl⟩) ?_ ?_; rotate_left
                                         · simp only [Act.put, zs1, zs2, zs3, i64_w, i32_w]; rfl
                                         refine pure_ (i := 19) (N := some 139) (v := undef) (a' := ?_) #[true, true, true, true, true, true, true, true, true, true, true, true, true, true, true, true, true, true, true, true, false, false, false, false, false, false, false, false, false, false, false, false, false, false] rfl rfl (any_of HT_.out (by kernel_rfl)) (fun _ _ _ h => h) (Or.inr ⟨by rfl, rfl⟩) ?_ ?_; rotate_left
                                         · simp only [Act.put, zs1, zs2, zs3, i64_w, i32_w]; rfl
                                         refine pure_ (i := 20) (N := some 140) (v := undef) (a' := ?_) #[true, true, true, true, true, true, true, true, true, true, true, true, true, true, true, true, true, true, true, true, true, false, false, false, false, false, false, false, false, false, false, false, false, false] rfl rfl (any_of HT_.out (by kernel_rfl)) (fun _ _ _ h => h) (Or.inr ⟨by rfl, rfl⟩) ?_ ?_; rotate_left
                                         · simp only [Act.put, zs1, zs2, zs3, i64_w, i32_w]; rfl
                                         refine pure_ (i := 21) (N := some 141) (v := undef) (a' := ?_) #[true, true, true, true, true, true, true, true, true, true, true, true, true, true, true, true, true, true, true, true, true, true, false, false, false, false, false, false, false, false, false, false, false, false] rfl rfl (any_of HT_.out (by kernel_rfl)) (fun _ _ _ h => h) (Or.inr ⟨by rfl, rfl⟩) ?_ ?_; rotate_left
                                         · simp only [Act.put, zs1, zs2, zs3, i64_w, i32_w]; rfl
                                         refine pure_ (i := 22) (N := some 142) (v := undef) (a' := ?_) #[true, true, true, true, true, true, true, true, true, true, true, true, true, true, true, true, true, true, true, true, true, true, true, false, false, false, false, false, false, false, false, false, false, false] rfl rfl (any_of HT_.out (by kernel_rfl)) (fun _ _ _ h => h) (Or.inr ⟨by rfl, rfl⟩) ?_ ?_; rotate_left
                                         · simp only [Act.put, zs1, zs2, zs3, i64_w, i32_w]; rfl
                                         refine pure_ (i := 23) (N := some 143) (v := undef) (a' := ?_) #[true, true, true, true, true, true, true, true, true, true, true, true, true, true, true, true, true, true, true, true, true, true, true, true, false, false, false, false, false, false, false, false, false, false] rfl rfl (any_of HT_.out (by kernel_rfl)) (fun _ _ _ h => h) (Or.inr ⟨by rfl, rfl⟩) ?_ ?_; rotate_left
                                         · simp only [Act.put, zs1, zs2, zs3, i64_w, i32_w]; rfl
                                         refine pure_ (i := 24) (N := some 144) (v := undef) (a' := ?_) #[true, true, true, true, true, true, true, true, true, true, true, true, true, true, true, true, true, true, true, true, true, true, true, true, true, false, false, false, false, false, false, false, false, false] rfl rfl (any_of HT_.out (by kernel_rfl)) (fun _ _ _ h => h) (Or.inr ⟨by rfl, rfl⟩) ?_ ?_; rotate_left
                                         · simp only [Act.put, zs1, zs2, zs3, i64_w, i32_w]; rfl
                                         refine pure_ (i := 25) (N := some 145) (v := undef) (a' := ?_) #[true, true, true, true, true, true, true, true, true, true, true, true, true, true, true, true, true, true, true, true, true, true, true, true, true, true, false, false, false, false, false, false, false, false] rfl rfl (any_of HT_.out (by kernel_rfl)) (fun _ _ _ h => h) (Or.inr ⟨by rfl, rfl⟩) ?_ ?_; rotate_left
                                         · simp only [Act.put, zs1, zs2, zs3, i64_w, i32_w]; rfl
                                         refine pure_ (i := 26) (N := some 146) (v := undef) (a' := ?_) #[true, true, true, true, true, true, true, true, true, true, true, true, true, true, true, true, true, true, true, true, true, true, true, true, true, true, true, false, false, false, false, false, false, false] rfl rfl (any_of HT_.out (by kernel_rfl)) (fun _ _ _ h => h) (Or.inr ⟨by rfl, rfl⟩) ?_ ?_; rotate_left
                                         · simp only [Act.put, zs1, zs2, zs3, i64_w, i32_w]; rfl
                                         refine pure_ (i := 27) (N := some 147) (v := undef) (a' := ?_) #[true, true, true, true, true, true, true, true, true, true, true, true, true, true, true, true, true, true, true, true, true, true, true, true, true, true, true, true, false, false, false, false, false, false] rfl rfl (any_of HT_.out (by kernel_rfl)) (fun _ _ _ h => h) (Or.inr ⟨by rfl, rfl⟩) ?_ ?_; rotate_left
                                         · simp only [Act.put, zs1, zs2, zs3, i64_w, i32_w]; rfl
                                         refine pure_ (i := 28) (N := some 148) (v := undef) (a' := ?_) #[true, true, true, true, true, true, true, true, true, true, true, true, true, true, true, true, true, true, true, true, true, true, true, true, true, true, true, true, true, false, false, false, false, false] rfl rfl (any_of HT_.out (by kernel_rfl)) (fun _ _ _ h => h) (Or.inr ⟨by rfl, rfl⟩) ?_ ?_; rotate_left
                                         · simp only [Act.put, zs1, zs2, zs3, i64_w, i32_w]; rfl
                                         refine pure_ (i := 29) (N := some 149) (v := undef) (a' := ?_) #[true, true, true, true, true, true, true, true, true, true, true, true, true, true, true, true, true, true, true, true, true, true, true, true, true, true, true, true, true, true, false, false, false, false] rfl rfl (any_of HT_.out (by kernel_rfl)) (fun _ _ _ h => h) (Or.inr ⟨by rfl, rfl⟩) ?_ ?_; rotate_left
                                         · simp only [Act.put, zs1, zs2, zs3, i64_w, i32_w]; rfl
                                         refine pure_ (i := 30) (N := some 150) (v := undef) (a' := ?_) #[true, true, true, true, true, true, true, true, true, true, true, true, true, true, true, true, true, true, true, true, true, true, true, true, true, true, true, true, true, true, true, false, false, false] rfl rfl (any_of HT_.out (by kernel_rfl)) (fun _ _ _ h => h) (Or.inr ⟨by rfl, rfl⟩) ?_ ?_; rotate_left
                                         · simp only [Act.put, zs1, zs2, zs3, i64_w, i32_w]; rfl
                                         refine pure_ (i := 31) (N := some 151) (v := undef) (a' := ?_) #[true, true, true, true, true, true, true, true, true, true, true, true, true, true, true, true, true, true, true, true, true, true, true, true, true, true, true, true, true, true, true, true, false, false] rfl rfl (any_of HT_.out (by kernel_rfl)) (fun _ _ _ h => h) (Or.inr ⟨by rfl, rfl⟩) ?_ ?_; rotate_left
                                         · simp only [Act.put, zs1, zs2, zs3, i64_w, i32_w]; rfl
                                         refine pure_ (i := 32) (N := some 152) (v := undef) (a' := ?_) #[true, true, true, true, true, true, true, true, true, true, true, true, true, true, true, true, true, true, true, true, true, true, true, true, true, true, true, true, true, true, true, true, true, false] rfl rfl (any_of HT_.out (by kernel_rfl)) (fun _ _ _ h => h) (Or.inr ⟨by rfl, rfl⟩) ?_ ?_; rotate_left
                                         · simp only [Act.put, zs1, zs2, zs3, i64_w, i32_w]; rfl
                                         refine pure_ (i := 33) (N := some 153) (v := ?_) (a' := ?_) #[true, true, true, true, true, true, true, true, true, true, true, true, true, true, true, true, true, true, true, true, true, true, true, true, true, true, true, true, true, true, true, true, true, true] rfl rfl (any_of HT_.out (by kernel_rfl)) (fun _ _ _ h => h) (Or.inl ⟨by rfl, ?_⟩) ?_ ?_; rotate_left
                                         · intro w'; go_simp
                                           with_reducible rfl
                                         rotate_left
                                         · simp only [Act.put, zs1, zs2, zs3, i64_w, i32_w]; rfl
                                         refine done_ (done_of HT_.out (by kernel_rfl)) ?_; try go_wp2
                                         go_meet
                                         case rel => exact ⟨_, (false), (by first | rfl | (simp; done) | (simp [*]; done)), H', ⟨by have := HK1.out; have := HJ19.out; have := HK3.out; have := HK4.out; have := HK5.out; have := HJ42.out; first | omega | exact Nat.le_refl _⟩, ⟨nN HO_10⟩, ⟨nN HO_11⟩, ⟨nR HO_14⟩, ⟨by repeat (first | (with_reducible exact HR434_1.out) | (with_reducible refine Kd.C_alloc ?_ _) | (with_reducible refine Kd.C_drewN ?_ _) | (with_reducible refine Kd.C_drew ?_) | exact HR434_1.out)⟩, ⟨nC HB⟩⟩
                                     · rw [if_neg c54] at H; exact absurd H (by simp)
                                   · rw [if_neg c53] at H; exact absurd H (by simp)
                                  case rest =>
                                   as_aux_lemma =>
                                   clear HC51; obtain ⟨kq, x153_50, rfl, HA, HJ50, HO_10, HO_11, HO_14, HR434_1, HB⟩ := hcut
                                   cases kq with
                                   | zero => exact absurd HA.out (by simp [kimberliteref03_Split.j6])
                                   | succ kj50 =>
                                    have H := HA.out; clear HA; simp only [kimberliteref03_Split.j6] at H
                                    by_cases c72 : x153_50 = true
                                    · subst c72; replace H : (kimberliteref03_Split.j7 kj50 l0 a1 x10_1 x11_3 x14_4 x15_4 x16_4 x17_4 x19_5) = some (r1, r2, r3, r4) := by rw [if_pos rfl] at H; exact H
                                      have H' := Aside0.mk H; clear H; go_wp2
                                      go_meet
                                      case rel => exact ⟨_, (x19_5), (by first | rfl | (simp; done) | (simp [*]; done)), H', ⟨by have := HK1.out; have := HJ19.out; have := HK3.out; have := HK4.out; have := HK5.out; have := HJ42.out; have := HJ50.out; first | omega | exact Nat.le_refl _⟩, ⟨nN HO_10⟩, ⟨nN HO_11⟩, ⟨nR HO_14⟩, ⟨by repeat (first | (with_reducible exact HR434_1.out) | (with_reducible refine Kd.C_alloc ?_ _) | (with_reducible refine Kd.C_drewN ?_ _) | (with_reducible refine Kd.C_drew ?_) | exact HR434_1.out)⟩, ⟨nC HB⟩⟩
                                    · replace c72 := Bool.eq_false_iff.mpr c72; subst c72; replace H : (kimberliteref03_Split.l3 kj50 l0 a1 x10_1 x11_3 x14_4 x15_4 x16_4 x17_4 x18_5 (wrap64 (x19_5 + 1))) = some (r1, r2, r3, r4) := by rw [if_neg (show ¬ (false = true) by decide)] at H; exact H
                                      have H' := Aside0.mk H; clear H; go_wp2
                                      go_roundg kj50
                                      case measure => have := HK1.out; have := HJ19.out; have := HK3.out; have := HK4.out; have := HK5.out; have := HJ42.out; have := HJ50.out; omega
                                      case rel => exact ⟨(x18_5), (wrap64 (x19_5 + 1)), (by first | rfl | (simp; done) | (simp [*]; done)), (by first | rfl | (simp; done) | (simp [*]; done)), H', ⟨by have := HK1.out; have := HJ19.out; have := HK3.out; have := HK4.out; have := HK5.out; have := HJ42.out; have := HJ50.out; omega⟩, ⟨nN HO_10⟩, ⟨nN HO_11⟩, ⟨nR HO_14⟩, ⟨by repeat (first | (with_reducible exact HR434_1.out) | (with_reducible refine Kd.C_alloc ?_ _) | (with_reducible refine Kd.C_drewN ?_ _) | (with_reducible refine Kd.C_drew ?_) | exact HR434_1.out)⟩, ⟨nC HB⟩⟩
                                · replace c50 := Bool.eq_false_iff.mpr c50; subst c50; replace H : (kimberliteref03_Split.j7 kj42 l0 a1 x10_1 x11_3 x14_4 x15_4 x16_4 x17_4 x18_5) = some (r1, r2, r3, r4) := by rw [if_neg (show ¬ (false = true) by decide)] at H; exact H
                                  have H' := Aside0.mk H; clear H; go_wp2
                                  go_meet
                                  case rel => exact ⟨_, (x18_5), (by first | rfl | (simp; done) | (simp [*]; done)), H', ⟨by have := HK1.out; have := HJ19.out; have := HK3.out; have := HK4.out; have := HK5.out; have := HJ42.out; first | omega | exact Nat.le_refl _⟩, ⟨nN HO_10⟩, ⟨nN HO_11⟩, ⟨nR HO_14⟩, ⟨by repeat (first | (with_reducible exact HR434_1.out) | (with_reducible refine Kd.C_alloc ?_ _) | (with_reducible refine Kd.C_drewN ?_ _) | (with_reducible refine Kd.C_drew ?_) | exact HR434_1.out)⟩, ⟨nC HB⟩⟩
                           case rest =>
                            as_aux_lemma =>
                            clear HC42; obtain ⟨kq, x18_41, rfl, HA, HJ41, HO_10, HO_11, HO_14, HR434_1, HB⟩ := hcut
                            cases kq with
                            | zero => exact absurd HA.out (by simp [kimberliteref03_Split.j7])
                            | succ kj41 =>
                             have H := HA.out; clear HA; simp only [kimberliteref03_Split.j7] at H
                             by_cases c73 : x14_4.length < 17592186044416
                             · rw [if_pos c73] at H; have LMc73 := Aside0.mk c73; clear c73; obtain ⟨y445, hy445⟩ : ∃ y_ : List Int, y_ = (x14_4 ++ [x18_41]) := ⟨_, rfl⟩; replace H : (if 0 ≤ x17_4 then (if x17_4 < (x10_1.length : Int) then (if x18_41 > ((rd_T78 x10_1 x17_4).f0) then ((kimberliteref03_Row_Value.f ((rd_T78 x10_1 x17_4).f0) ((rd_T78 x10_1 x17_4).f1) x18_41).bind fun t450 => ((kimberliteref03_Row_Value.f ((rd_T78 x10_1 x17_4).f0) ((rd_T78 x10_1 x17_4).f1) (wrap64 (x18_41 - 1))).bind fun t452 => (kimberliteref03_Split.l2 kj41 l0 a1 x10_1 x11_3 y445 (wrap64 (x15_4 - x18_41)) (mx x16_4 (wrap64 (t450 - t452))) (wrap64 (x17_4 + 1))))) else (kimberliteref03_Split.l2 kj41 l0 a1 x10_1 x11_3 y445 (wrap64 (x15_4 - x18_41)) x16_4 (wrap64 (x17_4 + 1)))) else (none)) else (none)) = some (r1, r2, r3, r4) := by first | (rw [hy445]; with_reducible exact H) | (have H2_ := (Option.bind_some _ _).symm.trans H; rw [hy445]; with_reducible exact H2_) | (have H2_ := (Option.bind_some _ _).symm.trans H; with_reducible exact H2_) | with_reducible exact H | (rw [hy445]; exact H) | exact H
                               have Ny445 := Aside0.mk hy445; clear hy445
                               by_cases c74 : 0 ≤ x17_4
                               · rw [if_pos c74] at H; have c74b0 : decide (0 ≤ x17_4) = true := decide_eq_true c74; clear c74
                                 by_cases c75 : x17_4 < (x10_1.length : Int)
                                 · rw [if_pos c75] at H; have c75b0 : decide (x17_4 < (x10_1.length : Int)) = true := decide_eq_true c75; clear c75
                                   by_cases c76 : x18_41 > ((rd_T78 x10_1 x17_4).f0)
                                   · rw [if_pos c76] at H; have c76b0 : decide (((rd_T78 x10_1 x17_4).f0) < x18_41) = true := decide_eq_true c76; clear c76; replace H := Option.bind_eq_some_iff.mp H; obtain ⟨t450, A770, H⟩ := H; replace H : ((kimberliteref03_Row_Value.f ((rd_T78 x10_1 x17_4).f0) ((rd_T78 x10_1 x17_4).f1) (wrap64 (x18_41 - 1))).bind fun t452 => (kimberliteref03_Split.l2 kj41 l0 a1 x10_1 x11_3 y445 (wrap64 (x15_4 - x18_41)) (mx x16_4 (wrap64 (t450 - t452))) (wrap64 (x17_4 + 1)))) = some (r1, r2, r3, r4) := H; have A77 := Aside0.mk A770; clear A770; replace H := Option.bind_eq_some_iff.mp H; obtain ⟨t452, A780, H⟩ := H; replace H : (kimberliteref03_Split.l2 kj41 l0 a1 x10_1 x11_3 y445 (wrap64 (x15_4 - x18_41)) (mx x16_4 (wrap64 (t450 - t452))) (wrap64 (x17_4 + 1))) = some (r1, r2, r3, r4) := H; have A78 := Aside0.mk A780; clear A780; obtain ⟨ji79, hji79⟩ : ∃ j_ : Int, (mx x16_4 (wrap64 (t450 - t452))) = j_ := ⟨_, rfl⟩; replace H : (kimberliteref03_Split.l2 kj41 l0 a1 x10_1 x11_3 y445 (wrap64 (x15_4 - x18_41)) ji79 (wrap64 (x17_4 + 1))) = some (r1, r2, r3, r4) := by first | (rw [hji79] at H; exact H) | (simp only [hji79] at H ⊢; exact H)
                                     (try rw [hji79] at A77); (try rw [hji79] at A78); have hji79_ : (if x16_4 < (wrap64 (t450 - t452)) then (wrap64 (t450 - t452)) else x16_4) = ji79 := hji79; have H' := Aside0.mk H; clear H; try go_wp2_with (first | ((with_reducible refine gate_builtin (b := .append) (xs := #[.tmp 155, .tmp 157]) rfl ?_); (try (refine gate_guard (by rfl) ?_; dsimp only)); at_builtin; refine Kd.R_append (Kd.int .i64) (w0 := w) w.heap.size rfl (.tmp 155) (.tmp 157) 22 3 (.int .i64 0) 8 rfl Try.underlying22 info3 rfl (by decide) (by omega) u14 x14_4 x18_41 [.int .i64 x18_41] (fun _ => True) (fun _ => False) rfl rfl ?aP (fun _ hk => hk.elim) ?aF ?aO ?aB ?aS ?aL ?_; (case aP => exact rfl); (case aB => exact (nC HB)); (case aF => exact (fun _ _ => trivial)); (case aO => exact (nR HO_14)); (case aS => exact (below_size (nC HB))); (case aL => have := LMc73.out; omega); intro v446 w80 ho hb hg hat; rw [← Ny445.out] at ho; replace HO_10 := Aside0.mk (Kd.N_afterv (ok := (fun k_ => some k_ ≠ (v425 : Value).ownBlock)) (nN HO_10) hg hat); replace HO_11 := Aside0.mk (Kd.N_afterv (ok := (fun _ => True)) (by (with_reducible repeat (first | apply Kd.N_alloc | apply Kd.N_drewN | apply Kd.N_drew)); exact Kd.N_mono HO_11.out (fun _ hk => ⟨trivial, hk⟩)) hg hat); replace HB := Aside0.mk (hb); have HO447 := Aside0.mk (ho); clear HO_14; clear ho hb hg hat; have p448 : 0 ≤ (x17_4 : Int) := of_decide_eq_true (by first | (with_reducible assumption) | assumption); have q448 : x17_4 < (x10_1.length : Int) := of_decide_eq_true (by first | (with_reducible assumption) | assumption); obtain ⟨ad448, A448_1, c448_1, e448, hx448_0, hx448_1, hl448_1, hi448_1⟩ := at_T78 (Kd.N_reads' HO_10.out).2.2 x17_4 p448 q448; obtain rfl : ad434 = ad448 := (by injection e448); obtain ⟨ce448, hce448, hMe448, hcc448⟩ := Kd.N_get HO_10.out z78 x17_4 p448 (by first | exact q448 | exact of_decide_eq_true (by first | (with_reducible assumption) | assumption) | (have e_ := (Kd.N_reads' HO_10.out).1; omega)); obtain ⟨ua448_1, uc448_1, rfl, ul448_1, ge448_1⟩ := k78_openF hMe448; have hv448_1 := hcc448 1 _ rfl; rw [add_field _ _ 1 (by omega)] at hv448_1; replace hv448_1 := Option.some.inj (hv448_1.symm.trans hx448_1); injection hv448_1 with hva_ hvn_ hvc_; rw [hva_] at ge448_1; rw [hvc_] at ul448_1; have HL448_1 := Aside0.mk (show Kd.V (Kd.int .i64) 3 _ w.heap.size _ _ ((rd_T78 x10_1 x17_4).f1) from Kd.V_mk ul448_1 ge448_1); clear hva_ hvn_ hvc_ ge448_1 ul448_1; clear hcc448 hce448; have HR448_1 := Aside0.mk hi448_1; have HC448_1 := Aside0.mk hl448_1; clear hi448_1 hl448_1; replace p448 := eq_true p448; replace q448 := eq_true q448))
                                     replace HO_10 := Aside0.mk (Kd.N_drew HO_10.out); replace HO_11 := Aside0.mk (Kd.N_drew HO_11.out); replace HO447 := Aside0.mk (Kd.R_drew HO447.out); replace HL448_1 := Aside0.mk (Kd.V_drew HL448_1.out); replace HR448_1 := Aside0.mk (Kd.C_drew HR448_1.out); replace HB := Aside0.mk (below_drew1 HB.out); have p449 : 0 ≤ (x17_4 : Int) := of_decide_eq_true (by first | (with_reducible assumption) | assumption); have q449 : x17_4 < (x10_1.length : Int) := of_decide_eq_true (by first | (with_reducible assumption) | assumption); obtain ⟨ad449, A449_1, c449_1, e449, hx449_0, hx449_1, hl449_1, hi449_1⟩ := at_T78 (Kd.N_reads' HO_10.out).2.2 x17_4 p449 q449; obtain rfl : ad434 = ad449 := (by injection e449); obtain ⟨ce449, hce449, hMe449, hcc449⟩ := Kd.N_get HO_10.out z78 x17_4 p449 (by first | exact q449 | exact of_decide_eq_true (by first | (with_reducible assumption) | assumption) | (have e_ := (Kd.N_reads' HO_10.out).1; omega)); obtain ⟨ua449_1, uc449_1, rfl, ul449_1, ge449_1⟩ := k78_openF hMe449; have hv449_1 := hcc449 1 _ rfl; rw [add_field _ _ 1 (by omega)] at hv449_1; replace hv449_1 := Option.some.inj (hv449_1.symm.trans hx449_1); injection hv449_1 with hva_ hvn_ hvc_
                                     rw [hva_] at ge449_1; rw [hvc_] at ul449_1; have HL449_1 := Aside0.mk (show Kd.V (Kd.int .i64) 3 _ w.heap.size _ _ ((rd_T78 x10_1 x17_4).f1) from Kd.V_mk ul449_1 ge449_1); clear hva_ hvn_ hvc_ ge449_1 ul449_1; clear hcc449 hce449; have HR449_1 := Aside0.mk hi449_1; have HC449_1 := Aside0.mk hl449_1; clear hi449_1 hl449_1; replace p449 := eq_true p449; replace q449 := eq_true q449; have p451 : 0 ≤ (x17_4 : Int) := of_decide_eq_true (by first | (with_reducible assumption) | assumption); have q451 : x17_4 < (x10_1.length : Int) := of_decide_eq_true (by first | (with_reducible assumption) | assumption); obtain ⟨ad451, A451_1, c451_1, e451, hx451_0, hx451_1, hl451_1, hi451_1⟩ := at_T78 (Kd.N_reads' HO_10.out).2.2 x17_4 p451 q451; obtain rfl : ad434 = ad451 := (by injection e451); obtain ⟨ce451, hce451, hMe451, hcc451⟩ := Kd.N_get HO_10.out z78 x17_4 p451 (by first | exact q451 | exact of_decide_eq_true (by first | (with_reducible assumption) | assumption) | (have e_ := (Kd.N_reads' HO_10.out).1; omega)); obtain ⟨ua451_1, uc451_1, rfl, ul451_1, ge451_1⟩ := k78_openF hMe451; have hv451_1 := hcc451 1 _ rfl; rw [add_field _ _ 1 (by omega)] at hv451_1; replace hv451_1 := Option.some.inj (hv451_1.symm.trans hx451_1); injection hv451_1 with hva_ hvn_ hvc_
                                     rw [hva_] at ge451_1; rw [hvc_] at ul451_1; have HL451_1 := Aside0.mk (show Kd.V (Kd.int .i64) 3 _ w.heap.size _ _ ((rd_T78 x10_1 x17_4).f1) from Kd.V_mk ul451_1 ge451_1); clear hva_ hvn_ hvc_ ge451_1 ul451_1; clear hcc451 hce451; have HR451_1 := Aside0.mk hi451_1; have HC451_1 := Aside0.mk hl451_1; clear hi451_1 hl451_1; replace p451 := eq_true p451; replace q451 := eq_true q451; have ea_ := Option.some.inj (hx449_1.symm.trans hx451_1); injection ea_ with ea_ en_ ec_
                                     subst ea_; subst ec_; clear en_; refine start_ (n := 17) (S := fun w' => w'.cell? (ad434.add ((x17_4).toNat * 2)) = some (.int .i64 ((rd_T78 x10_1 x17_4).f0)) ∧ w'.cell? ⟨(ad434.add ((x17_4).toNat * 2)).block, (ad434.add ((x17_4).toNat * 2)).off + 1, none⟩ = some (.slice A449_1 ((rd_T78 x10_1 x17_4).f1).length c449_1) ∧ w'.cell? (ad434.add ((x17_4).toNat * 2)) = some (.int .i64 ((rd_T78 x10_1 x17_4).f0)) ∧ w'.cell? ⟨(ad434.add ((x17_4).toNat * 2)).block, (ad434.add ((x17_4).toNat * 2)).off + 1, none⟩ = some (.slice A449_1 ((rd_T78 x10_1 x17_4).f1).length c449_1)) (ds := []) #[false, false, false, false, false, false, false, false, false, false, false, false, false, false, false, false, false] (by kernel_rfl) rfl rfl ⟨hx449_0, hx449_1, hx451_0, hx451_1⟩ (fun hHeld => ?_); refine with_tabW kimberliteref03_Split.tab36 kimberliteref03_Split.bits36 (fun HT_ HW_ => ?_); generalize w80.drew = w81 at HO_10 HO_11 HO447 HL448_1 HR448_1 HB HL449_1 HL451_1 HR449_1 HR451_1 hx449_0 hx449_1 hx451_0 hx451_1 hHeld ⊢; refine pure_ (i := 0) (N := some 169) (v := ?_) (a' := ?_) #[true, false, false, false, false, false, false, false, false, false, false, false, false, false, false, false, false] rfl rfl (any_of HT_.out (by kernel_rfl)) (fun _ _ _ h => h) (Or.inl ⟨by rfl, ?_⟩) ?_ ?_; rotate_left
                                     · intro w'; go_simp
                                       with_reducible rfl
                                     rotate_left
                                     · simp only [Act.put, zs1, zs2, zs3, i64_w, i32_w]; rfl
                                     refine pure_ (i := 1) (N := some 170) (v := ?_) (a' := ?_) #[true, true, false, false, false, false, false, false, false, false, false, false, false, false, false, false, false] rfl rfl (any_of HT_.out (by kernel_rfl)) (fun _ _ _ h => h) (Or.inl ⟨by rfl, ?_⟩) ?_ ?_; rotate_left
                                     · intro w'; go_simp
                                       with_reducible rfl
                                     rotate_left
                                     · simp only [Act.put, zs1, zs2, zs3, i64_w, i32_w]; rfl
                                     refine pure_ (i := 2) (N := some 171) (v := ?_) (a' := ?_) #[true, true, true, false, false, false, false, false, false, false, false, false, false, false, false, false, false] rfl rfl (any_of HT_.out (by kernel_rfl)) (fun _ _ _ h => h) (Or.inl ⟨by rfl, ?_⟩) ?_ ?_; rotate_left
                                     · intro w'; go_simp
                                       with_reducible rfl
                                     rotate_left
                                     · simp only [Act.put, zs1, zs2, zs3, i64_w, i32_w]; rfl
                                     refine pure_ (i := 3) (N := some 172) (v := ?_) (a' := ?_) #[true, true, true, true, false, false, false, false, false, false, false, false, false, false, false, false, false] rfl rfl (any_of HT_.out (by kernel_rfl)) (fun _ _ _ h => h) (Or.inl ⟨by rfl, ?_⟩) ?_ ?_; rotate_left
                                     · intro w'; go_simp
                                       with_reducible rfl
                                     rotate_left
                                     · simp only [Act.put, zs1, zs2, zs3, i64_w, i32_w]; rfl
                                     refine pure_ (i := 5) (N := some 174) (v := ?_) (a' := ?_) #[true, true, true, true, false, true, false, false, false, false, false, false, false, false, false, false, false] rfl rfl (any_of HT_.out (by kernel_rfl)) (fun _ _ _ h => h) (Or.inl ⟨by rfl, ?_⟩) ?_ ?_; rotate_left
                                     · intro w'; go_simp
                                       with_reducible rfl
                                     rotate_left
                                     · simp only [Act.put, zs1, zs2, zs3, i64_w, i32_w]; rfl
                                     refine pure_ (i := 7) (N := some 176) (v := ?_) (a' := ?_) #[true, true, true, true, false, true, false, true, false, false, false, false, false, false, false, false, false] rfl rfl (any_of HT_.out (by kernel_rfl)) (fun _ _ _ h => h) (Or.inl ⟨by rfl, ?_⟩) ?_ ?_; rotate_left
                                     · intro w'; go_simp
                                       with_reducible rfl
                                     rotate_left
                                     · simp only [Act.put, zs1, zs2, zs3, i64_w, i32_w]; rfl
                                     refine pure_ (i := 8) (N := some 177) (v := ?_) (a' := ?_) #[true, true, true, true, false, true, false, true, true, false, false, false, false, false, false, false, false] rfl rfl (any_of HT_.out (by kernel_rfl)) (fun _ _ _ h => h) (Or.inl ⟨by rfl, ?_⟩) ?_ ?_; rotate_left
                                     · intro w'; go_simp
                                       with_reducible rfl
                                     rotate_left
                                     · simp only [Act.put, zs1, zs2, zs3, i64_w, i32_w]; rfl
                                     refine pure_ (i := 9) (N := some 178) (v := ?_) (a' := ?_) #[true, true, true, true, false, true, false, true, true, true, false, false, false, false, false, false, false] rfl rfl (any_of HT_.out (by kernel_rfl)) (fun _ _ _ h => h) (Or.inl ⟨by rfl, ?_⟩) ?_ ?_; rotate_left
                                     · intro w'; go_simp
                                       with_reducible rfl
                                     rotate_left
                                     · simp only [Act.put, zs1, zs2, zs3, i64_w, i32_w]; rfl
                                     refine pure_ (i := 11) (N := some 180) (v := ?_) (a' := ?_) #[true, true, true, true, false, true, false, true, true, true, false, true, false, false, false, false, false] rfl rfl (any_of HT_.out (by kernel_rfl)) (fun _ _ _ h => h) (Or.inl ⟨by rfl, ?_⟩) ?_ ?_; rotate_left
                                     · intro w'; go_simp
                                       with_reducible rfl
                                     rotate_left
                                     · simp only [Act.put, zs1, zs2, zs3, i64_w, i32_w]; rfl
                                     refine pure_ (i := 12) (N := some 181) (v := ?_) (a' := ?_) #[true, true, true, true, false, true, false, true, true, true, false, true, true, false, false, false, false] rfl rfl (any_of HT_.out (by kernel_rfl)) (fun _ _ _ h => h) (Or.inl ⟨by rfl, ?_⟩) ?_ ?_; rotate_left
                                     · intro w'; go_simp
                                       with_reducible rfl
                                     rotate_left
                                     · simp only [Act.put, zs1, zs2, zs3, i64_w, i32_w]; rfl
                                     refine take_ (i := 4) (N := some 173) (v := ?_) (a' := ?_) #[true, true, true, true, true, true, false, true, true, true, false, true, true, false, false, false, false] rfl rfl (take_ofW HT_.out HW_.out (by kernel_rfl)) (fun _ _ _ h => h) (Or.inl ⟨by rfl, ?_⟩) hHeld ?_ ?_; rotate_left
                                     · rintro w' ⟨s0, zs1, zs2, zs3⟩; go_simp
                                       with_reducible rfl
                                     rotate_left
                                     · simp only [Act.put, zs1, zs2, zs3, i64_w, i32_w]; rfl
                                     refine take_ (i := 10) (N := some 179) (v := ?_) (a' := ?_) #[true, true, true, true, true, true, false, true, true, true, true, true, true, false, false, false, false] rfl rfl (take_ofW HT_.out HW_.out (by kernel_rfl)) (fun _ _ _ h => h) (Or.inl ⟨by rfl, ?_⟩) hHeld ?_ ?_; rotate_left
                                     · rintro w' ⟨s0, zs1, zs2, zs3⟩; go_simp
                                       with_reducible rfl
                                     rotate_left
                                     · simp only [Act.put, zs1, zs2, zs3, i64_w, i32_w]; rfl
                                     refine one_ (i := 6) (N := some 175) #[true, true, true, true, true, true, true, true, true, true, true, true, true, false, false, false, false] rfl rfl (one_of HT_.out (by kernel_rfl)) (by decide) (fun K hK => ?_); refine gO Try.func68 #[.agg #[.int .i64 ((rd_T78 x10_1 x17_4).f0), .slice A449_1 ((rd_T78 x10_1 x17_4).f1).length c449_1], .int .i64 x18_41] ?_
                                     with_reducible refine (kimberliteref03_Row_Value.calls ((rd_T78 x10_1 x17_4).f0) _ _ ((rd_T78 x10_1 x17_4).f1) x18_41 t450 _ ?side1 ?side2 A77.out).mono ?_
                                     (case side1 => exact nT HR449_1); (case side2 => exact HC449_1.out); rintro e w82 ⟨rfl, hb⟩; have HS0_ := (hb.cell (World.block_lt_of_cell? _ _ (hHeld.1))).trans (hHeld.1); have HS1_ := (hb.cell (World.block_lt_of_cell? _ _ (hHeld.2.1))).trans (hHeld.2.1); have HS2_ := (hb.cell (World.block_lt_of_cell? _ _ (hHeld.2.2.1))).trans (hHeld.2.2.1); have HS3_ := (hb.cell (World.block_lt_of_cell? _ _ (hHeld.2.2.2))).trans (hHeld.2.2.2); refine ⟨_, rfl, ?_⟩; replace HO_10 := Aside0.mk (Kd.N_below (nN HO_10) hb); replace HO_11 := Aside0.mk (Kd.N_below (nN HO_11) hb); replace HO447 := Aside0.mk (Kd.R_below (nR HO447) hb); replace HL448_1 := Aside0.mk (Kd.V_below (nV HL448_1) hb); replace HL449_1 := Aside0.mk (Kd.V_below (nV HL449_1) hb); replace HL451_1 := Aside0.mk (Kd.V_below (nV HL451_1) hb); replace HR448_1 := Aside0.mk (Kd.C_below (nT HR448_1) hb); replace HR449_1 := Aside0.mk (Kd.C_below (nT HR449_1) hb); replace HR451_1 := Aside0.mk (Kd.C_below (nT HR451_1) hb); replace HB := Aside0.mk (below_step (nC HB) hb); (try clear hb); (try clear hb2); (try clear hk); (try clear hi); refine hK.out _ _ ⟨HS0_, HS1_, HS2_, HS3_⟩ (fun hHeld => ?_); clear hK K; refine norm_ (a' := ?_) ?_ ?_; rotate_left
                                     · show Act.put _ (some 175) _ = _; simp only [Act.put, zs1, zs2, zs3, i64_w, i32_w]; rfl
                                     refine one_ (i := 13) (N := some 182) #[true, true, true, true, true, true, true, true, true, true, true, true, true, true, false, false, false] rfl rfl (one_of HT_.out (by kernel_rfl)) (by decide) (fun K hK => ?_); refine gO Try.func68 #[.agg #[.int .i64 ((rd_T78 x10_1 x17_4).f0), .slice A449_1 ((rd_T78 x10_1 x17_4).f1).length c449_1], .int .i64 (wrap64 (x18_41 - 1))] ?_
                                     with_reducible refine (kimberliteref03_Row_Value.calls ((rd_T78 x10_1 x17_4).f0) _ _ ((rd_T78 x10_1 x17_4).f1) (wrap64 (x18_41 - 1)) t452 _ ?side1 ?side2 A78.out).mono ?_
                                     (case side1 => exact nT HR451_1); (case side2 => exact HC451_1.out); rintro e w83 ⟨rfl, hb⟩; have HS0_ := (hb.cell (World.block_lt_of_cell? _ _ (hHeld.1))).trans (hHeld.1); have HS1_ := (hb.cell (World.block_lt_of_cell? _ _ (hHeld.2.1))).trans (hHeld.2.1); have HS2_ := (hb.cell (World.block_lt_of_cell? _ _ (hHeld.2.2.1))).trans (hHeld.2.2.1); have HS3_ := (hb.cell (World.block_lt_of_cell? _ _ (hHeld.2.2.2))).trans (hHeld.2.2.2); refine ⟨_, rfl, ?_⟩; replace HO_10 := Aside0.mk (Kd.N_below (nN HO_10) hb); replace HO_11 := Aside0.mk (Kd.N_below (nN HO_11) hb); replace HO447 := Aside0.mk (Kd.R_below (nR HO447) hb); replace HL448_1 := Aside0.mk (Kd.V_below (nV HL448_1) hb); replace HL449_1 := Aside0.mk (Kd.V_below (nV HL449_1) hb); replace HL451_1 := Aside0.mk (Kd.V_below (nV HL451_1) hb); replace HR448_1 := Aside0.mk (Kd.C_below (nT HR448_1) hb); replace HR449_1 := Aside0.mk (Kd.C_below (nT HR449_1) hb); replace HR451_1 := Aside0.mk (Kd.C_below (nT HR451_1) hb); replace HB := Aside0.mk (below_step (nC HB) hb); (try clear hb); (try clear hb2); (try clear hk); (try clear hi); refine hK.out _ _ ⟨HS0_, HS1_, HS2_, HS3_⟩ (fun hHeld => ?_); clear hK K; refine norm_ (a' := ?_) ?_ ?_; rotate_left
                                     · show Act.put _ (some 182) _ = _; simp only [Act.put, zs1, zs2, zs3, i64_w, i32_w]; rfl
                                     refine pure_ (i := 14) (N := some 183) (v := ?_) (a' := ?_) #[true, true, true, true, true, true, true, true, true, true, true, true, true, true, true, false, false] rfl rfl (any_of HT_.out (by kernel_rfl)) (fun _ _ _ h => h) (Or.inl ⟨by rfl, ?_⟩) ?_ ?_; rotate_left
                                     · intro w'; go_simp
                                       with_reducible rfl
                                     rotate_left
                                     · simp only [Act.put, zs1, zs2, zs3, i64_w, i32_w]; rfl
                                     refine pure_ (i := 15) (N := some 184) (v := ?_) (a' := ?_) #[true, true, true, true, true, true, true, true, true, true, true, true, true, true, true, true, false] rfl rfl (any_of HT_.out (by kernel_rfl)) (fun _ _ _ h => h) (Or.inl ⟨by rfl, ?_⟩) ?_ ?_; rotate_left
                                     · intro w'; go_simp
                                       with_reducible rfl
                                     rotate_left
                                     · simp only [Act.put, zs1, zs2, zs3, i64_w, i32_w]; rfl
                                     refine pure_ (i := 16) (N := some 16) (v := ?_) (a' := ?_) #[true, true, true, true, true, true, true, true, true, true, true, true, true, true, true, true, true] rfl rfl (any_of HT_.out (by kernel_rfl)) (fun _ _ _ h => h) (Or.inl ⟨by rfl, ?_⟩) ?_ ?_; rotate_left
                                     · intro w'; go_simp
                                       with_reducible rfl
                                     rotate_left
                                     · simp only [Act.put, zs1, zs2, zs3, i64_w, i32_w]; rfl
                                     refine done_ (done_of HT_.out (by kernel_rfl)) ?_; try go_wp2
                                     go_roundg kj41
                                     case measure => have := HK1.out; have := HJ19.out; have := HK3.out; have := HK4.out; have := HJ41.out; omega
                                     case rel => exact ⟨(y445), (wrap64 (x15_4 - x18_41)), (ji79), (wrap64 (x17_4 + 1)), (by first | rfl | (simp; done) | (simp [*]; done)), (by first | rfl | (simp; done) | (simp only [← hji79] <;> (first | rfl | simp)) | (simp [*]; done)), (by first | rfl | (simp; done) | (simp [*]; done)), H', ⟨by have := HK1.out; have := HJ19.out; have := HK3.out; have := HK4.out; have := HJ41.out; omega⟩, ⟨nN HO_10⟩, ⟨by (with_reducible repeat (first | apply Kd.N_alloc | apply Kd.N_drewN | apply Kd.N_drew)); exact Kd.N_mono HO_11.out (fun _ hk => hk.2)⟩, ⟨nR HO447⟩, ⟨nC HB⟩⟩
                                   · rw [if_neg c76] at H; have c76b0 : decide (((rd_T78 x10_1 x17_4).f0) < x18_41) = false := decide_eq_false c76; clear c76; have H' := Aside0.mk H; clear H; go_wp2_with (first | ((with_reducible refine gate_builtin (b := .append) (xs := #[.tmp 155, .tmp 157]) rfl ?_); (try (refine gate_guard (by rfl) ?_; dsimp only)); at_builtin; refine Kd.R_append (Kd.int .i64) (w0 := w) w.heap.size rfl (.tmp 155) (.tmp 157) 22 3 (.int .i64 0) 8 rfl Try.underlying22 info3 rfl (by decide) (by omega) u14 x14_4 x18_41 [.int .i64 x18_41] (fun _ => True) (fun _ => False) rfl rfl ?aP (fun _ hk => hk.elim) ?aF ?aO ?aB ?aS ?aL ?_; (case aP => exact rfl); (case aB => exact (nC HB)); (case aF => exact (fun _ _ => trivial)); (case aO => exact (nR HO_14)); (case aS => exact (below_size (nC HB))); (case aL => have := LMc73.out; omega); intro v446 w84 ho hb hg hat; rw [← Ny445.out] at ho; replace HO_10 := Aside0.mk (Kd.N_afterv (ok := (fun k_ => some k_ ≠ (v425 : Value).ownBlock)) (nN HO_10) hg hat); replace HO_11 := Aside0.mk (Kd.N_afterv (ok := (fun _ => True)) (by (with_reducible repeat (first | apply Kd.N_alloc | apply Kd.N_drewN | apply Kd.N_drew)); exact Kd.N_mono HO_11.out (fun _ hk => ⟨trivial, hk⟩)) hg hat); replace HB := Aside0.mk (hb); have HO447 := Aside0.mk (ho); clear HO_14; clear ho hb hg hat; have p448 : 0 ≤ (x17_4 : Int) := of_decide_eq_true (by first | (with_reducible assumption) | assumption); have q448 : x17_4 < (x10_1.length : Int) := of_decide_eq_true (by first | (with_reducible assumption) | assumption); obtain ⟨ad448, A448_1, c448_1, e448, hx448_0, hx448_1, hl448_1, hi448_1⟩ := at_T78 (Kd.N_reads' HO_10.out).2.2 x17_4 p448 q448; obtain rfl : ad434 = ad448 := (by injection e448); obtain ⟨ce448, hce448, hMe448, hcc448⟩ := Kd.N_get HO_10.out z78 x17_4 p448 (by first | exact q448 | exact of_decide_eq_true (by first | (with_reducible assumption) | assumption) | (have e_ := (Kd.N_reads' HO_10.out).1; omega)); obtain ⟨ua448_1, uc448_1, rfl, ul448_1, ge448_1⟩ := k78_openF hMe448; have hv448_1 := hcc448 1 _ rfl; rw [add_field _ _ 1 (by omega)] at hv448_1; replace hv448_1 := Option.some.inj (hv448_1.symm.trans hx448_1); injection hv448_1 with hva_ hvn_ hvc_; rw [hva_] at ge448_1; rw [hvc_] at ul448_1; have HL448_1 := Aside0.mk (show Kd.V (Kd.int .i64) 3 _ w.heap.size _ _ ((rd_T78 x10_1 x17_4).f1) from Kd.V_mk ul448_1 ge448_1); clear hva_ hvn_ hvc_ ge448_1 ul448_1; clear hcc448 hce448; have HR448_1 := Aside0.mk hi448_1; have HC448_1 := Aside0.mk hl448_1; clear hi448_1 hl448_1; replace p448 := eq_true p448; replace q448 := eq_true q448))
                                     go_roundg kj41
                                     case measure => have := HK1.out; have := HJ19.out; have := HK3.out; have := HK4.out; have := HJ41.out; omega
                                     case rel => exact ⟨(y445), (wrap64 (x15_4 - x18_41)), (x16_4), (wrap64 (x17_4 + 1)), (by first | rfl | (simp; done) | (simp [*]; done)), (by first | rfl | (simp; done) | (simp [*]; done)), (by first | rfl | (simp; done) | (simp [*]; done)), H', ⟨by have := HK1.out; have := HJ19.out; have := HK3.out; have := HK4.out; have := HJ41.out; omega⟩, ⟨nN HO_10⟩, ⟨by (with_reducible repeat (first | apply Kd.N_alloc | apply Kd.N_drewN | apply Kd.N_drew)); exact Kd.N_mono HO_11.out (fun _ hk => hk.2)⟩, ⟨nR HO447⟩, ⟨nC HB⟩⟩
                                 · rw [if_neg c75] at H; exact absurd H (by simp)
                               · rw [if_neg c74] at H; exact absurd H (by simp)
                             · rw [if_neg c73] at H; exact absurd H (by simp)
                         · rw [if_neg c41] at H; exact absurd H (by simp)
                       · rw [if_neg c40] at H; exact absurd H (by simp)
                     · rw [if_neg c39] at H; have c39b0 : decide (x17_4 < (l0.length : Int)) = false := decide_eq_false c39; clear c39
                       by_cases c85 : 0 < (x11_3.length : Int)
                       · rw [if_pos c85] at H; have c85b0 : decide (0 < (x11_3.length : Int)) = true := decide_eq_true c85; have c85b1 : decide (0 < x11_3.length) = true := decide_eq_true (by omega); clear c85; replace H := Option.bind_eq_some_iff.mp H; obtain ⟨t454, A860, H⟩ := H; replace H : (some (x14_4, t454, x16_4, 0)) = some (r1, r2, r3, r4) := H; have A86 := Aside0.mk A860; clear A860; simp only [Option.some.injEq, Prod.mk.injEq] at H; obtain ⟨rfl, rfl, rfl, rfl⟩ := H; obtain ⟨Ao87, co87, eo87⟩ := Kd.N_slice HO_11.out; subst eo87; have p453 : 0 ≤ (0 : Int) := (by omega); have q453 : 0 < (x11_3.length : Int) := of_decide_eq_true (by first | (with_reducible assumption) | assumption); obtain ⟨ad453, A453_1, c453_1, e453, hx453_0, hx453_1, hl453_1, hi453_1⟩ := at_T78 (Kd.N_reads' HO_11.out).2.2 0 p453 q453
                         cases e453
                         obtain ⟨ce453, hce453, hMe453, hcc453⟩ := Kd.N_get HO_11.out z78 0 p453 (by first | exact q453 | exact of_decide_eq_true (by first | (with_reducible assumption) | assumption) | (have e_ := (Kd.N_reads' HO_11.out).1; omega)); obtain ⟨ua453_1, uc453_1, rfl, ul453_1, ge453_1⟩ := k78_openF hMe453; have hv453_1 := hcc453 1 _ rfl; rw [add_field _ _ 1 (by omega)] at hv453_1; replace hv453_1 := Option.some.inj (hv453_1.symm.trans hx453_1); injection hv453_1 with hva_ hvn_ hvc_
                         rw [hva_] at ge453_1; rw [hvc_] at ul453_1; have HL453_1 := Aside0.mk (show Kd.V (Kd.int .i64) 3 _ w.heap.size _ _ ((rd_T78 x11_3 0).f1) from Kd.V_mk ul453_1 ge453_1); clear hva_ hvn_ hvc_ ge453_1 ul453_1; clear hcc453 hce453; have qi453 : (0 < x11_3.length) = True := eq_true (by omega); (try rw [show ((0 : Int)).toNat = 0 from rfl] at hx453_0); (try rw [show 0 * 2 = 0 from rfl] at hx453_0); (try rw [Addr.add_zero'] at hx453_0); (try rw [show ((0 : Int)).toNat = 0 from rfl] at hx453_1); (try rw [show 0 * 2 = 0 from rfl] at hx453_1); (try rw [Addr.add_zero'] at hx453_1); have HR453_1 := Aside0.mk hi453_1; have HC453_1 := Aside0.mk hl453_1; clear hi453_1 hl453_1; replace p453 := eq_true p453; replace q453 := eq_true q453; go_wp2_with (first | ((with_reducible refine gate_callee (f := 68) rfl ?_); refine gL (some 190) Try.func68 #[.agg #[.int .i64 ((rd_T78 x11_3 0).f0), .slice A453_1 ((rd_T78 x11_3 0).f1).length c453_1], .int .i64 a1] ?_; (with_reducible refine (kimberliteref03_Row_Value.calls ((rd_T78 x11_3 0).f0) _ _ ((rd_T78 x11_3 0).f1) a1 t454 _ ?side1 ?side2 A86.out).mono ?_); (case side1 => exact nT HR453_1); (case side2 => exact HC453_1.out); rintro e w88 ⟨rfl, hb⟩; refine ⟨_, rfl, ?_⟩; replace HO_10 := Aside0.mk (Kd.N_below (nN HO_10) hb); replace HO_11 := Aside0.mk (Kd.N_below (nN HO_11) hb); replace HO_14 := Aside0.mk (Kd.R_below (nR HO_14) hb); replace HL453_1 := Aside0.mk (Kd.V_below (nV HL453_1) hb); replace HR453_1 := Aside0.mk (Kd.C_below (nT HR453_1) hb); replace HB := Aside0.mk (below_step (nC HB) hb); (try clear hb); (try clear hb2); (try clear hk); (try clear hi)))
                         refine bodyPost_ret (results_list (rs := [.tmp 4, .tmp 5, .tmp 6, .tmp 7]) rfl (by simp) (.tmp (.tmp (.tmp (.tmp .nil))))) rfl ?_; exact ⟨_, by first | rfl | (simp [errW_none, errW_some] <;> rfl) | (simp [*, errW_none, errW_some] <;> rfl), by (with_reducible repeat (first | apply Kd.R_alloc | apply Kd.R_drewN | apply Kd.R_drew)); exact HO_14.out, nC HB⟩
                       · rw [if_neg c85] at H; exact absurd H (by simp)
             · rw [if_neg c23] at H; exact absurd H (by simp)
end Go.Proofs.Ytingjpcgehgiiaa.Pr
end
