/- What the proof of the law needs, trimmed and merged by wip/pack.py out of the texts YtmomcbhgggggnaaGreatDoorPrx10, YtmomcbhgggggnaaGreatDoorPrx11, YtmomcbhgggggnaaGreatDoorTxw, YtmomcbhgggggnaaGreatDoorWds, YtmomcbhgggggnaaGreatDoorDig, YtmomcbhgggggnaaGreatDoorNum, YtmomcbhgggggnaaGreatDoorVld, YtmomcbhgggggnaaGreatDoorTxp, YtmomcbhgggggnaaGreatDoorPrp. No condition. -/
import Derived.Lib.Split
import Derived.Lib.Join
import Derived.Lib.ItoaMem
import Derived.Lib.AtoiAll
import Derived.Lib.Strings
import Derived.Lib.ItoaLen
import Derived.Test.YtmomcbhgggggnaaGreatDoorKSpanTexts0
import Derived.Test.YtmomcbhgggggnaaGreatDoorKSpanTexts1
import Derived.Test.YtmomcbhgggggnaaGreatDoorKSpanTexts2
import Derived.Test.YtmomcbhgggggnaaGreatDoorKSpanTexts3
import Derived.Test.YtmomcbhgggggnaaGreatDoorKSpanTexts4
import Derived.Test.YtmomcbhgggggnaaGreatDoorKSpanTexts5
import Derived.Test.YtmomcbhgggggnaaGreatDoorKSpanTexts6
section
namespace Go.Proofs.YtmomcbhgggggnaaGreatDoor.Pr
open Go.RowKit Go.Proofs.YtmomcbhgggggnaaGreatDoorW.PrintWords Go.Proofs.YtmomcbhgggggnaaGreatDoorW.PrintLast Go.Proofs.YtmomcbhgggggnaaGreatDoorW.PrintMore
attribute [local go_sem] max2_int min2_int max_two min_two max_three min_three max_four min_four   -- for this text's walks alone
set_option linter.unusedVariables false
set_option linter.unusedSimpArgs false
mutual
def kimberliteref01_Parse.l0 : Nat → ByteArray → List (S41) → Int → Int → Option ((List (S41)) × Int)
 | 0, _, _, _, _ => none
 | k + 1, x0, x4, x5, x6 => if x6 ≤ (x0.size : Int) then (if x6 < (x0.size : Int) then (if 0 ≤ x6 then (kimberliteref01_Parse.j1 k x0 x4 x5 x6 ((bt x0 x6) != 32)) else (none)) else (kimberliteref01_Parse.j1 k x0 x4 x5 x6 false)) else ((kimberliteref01_Text.f k x4).bind fun bt141 => (if bt141.2 = 0 then (kimberliteref01_Parse.j7 k x4 (bt141.1.toList != x0.toList)) else (kimberliteref01_Parse.j7 k x4 true)))
def kimberliteref01_Parse.j1 : Nat → ByteArray → List (S41) → Int → Int → Bool → Option ((List (S41)) × Int)
 | 0, _, _, _, _, _ => none
 | k + 1, x0, x4, x5, x6, x33 => if x33 = true then (kimberliteref01_Parse.l0 k x0 x4 x5 (wrap64 (x6 + 1))) else (if 0 ≤ x5 then (if x5 ≤ x6 then (if x6 ≤ (x0.size : Int) then (kimberliteref01_Parse.l1 k x0 x4 (wrap64 (x6 + 1)) x6 (x0.extract (x5 : Int).toNat (x6 : Int).toNat) (-1) 0) else (none)) else (none)) else (none))
def kimberliteref01_Parse.l1 : Nat → ByteArray → List (S41) → Int → Int → ByteArray → Int → Int → Option ((List (S41)) × Int)
 | 0, _, _, _, _, _, _, _ => none
 | k + 1, x0, x4, x5, x6, x7, x8, x9 => if (wrap64 (x9 + 1)) < (x7.size : Int) then (kimberliteref01_Parse.j3 k x0 x4 x5 x6 x7 x8 x9 (decide (x8 < 0))) else (kimberliteref01_Parse.j3 k x0 x4 x5 x6 x7 x8 x9 false)
def kimberliteref01_Parse.j3 : Nat → ByteArray → List (S41) → Int → Int → ByteArray → Int → Int → Bool → Option ((List (S41)) × Int)
 | 0, _, _, _, _, _, _, _, _ => none
 | k + 1, x0, x4, x5, x6, x7, x8, x9, x48 => if x48 = true then (if 0 ≤ x9 then (if x9 < (x7.size : Int) then (if (bt x7 x9) = 46 then (if 0 ≤ (wrap64 (x9 + 1)) then (if (wrap64 (x9 + 1)) < (x7.size : Int) then (kimberliteref01_Parse.j4 k x0 x4 x5 x6 x7 x8 x9 ((bt x7 (wrap64 (x9 + 1))) == 46)) else (none)) else (none)) else (kimberliteref01_Parse.j4 k x0 x4 x5 x6 x7 x8 x9 false)) else (none)) else (none)) else (if x8 < 0 then (kimberliteref01_Parse.j5 k x0 x4 x5 x6 x7 x8 true) else (kimberliteref01_Parse.j5 k x0 x4 x5 x6 x7 x8 (decide ((x4.length : Int) ≥ 128))))
def kimberliteref01_Parse.j4 : Nat → ByteArray → List (S41) → Int → Int → ByteArray → Int → Int → Bool → Option ((List (S41)) × Int)
 | 0, _, _, _, _, _, _, _, _ => none
 | k + 1, x0, x4, x5, x6, x7, x8, x9, x61 => if x61 = true then (kimberliteref01_Parse.l1 k x0 x4 x5 x6 x7 x9 (wrap64 (x9 + 1))) else (kimberliteref01_Parse.l1 k x0 x4 x5 x6 x7 x8 (wrap64 (x9 + 1)))
def kimberliteref01_Parse.j5 : Nat → ByteArray → List (S41) → Int → Int → ByteArray → Int → Bool → Option ((List (S41)) × Int)
 | 0, _, _, _, _, _, _, _ => none
 | k + 1, x0, x4, x5, x6, x7, x8, x69 => if x69 = true then (some (([] : List (S41)), 5)) else (if 0 ≤ x8 then (if x8 ≤ (x7.size : Int) then ((kimberliteref01_Number.f k (x7.extract 0 (x8 : Int).toNat)).bind fun bt134 => (if 0 ≤ (wrap64 (x8 + 2)) then (if (wrap64 (x8 + 2)) ≤ (x7.size : Int) then ((kimberliteref01_Number.f k (x7.extract ((wrap64 (x8 + 2)) : Int).toNat x7.size)).bind fun bt136 => (if bt134.2 = true then (kimberliteref01_Parse.j6 k x0 x4 x5 x6 bt134.1 bt136.1 (!bt136.2)) else (kimberliteref01_Parse.j6 k x0 x4 x5 x6 bt134.1 bt136.1 true))) else (none)) else (none))) else (none)) else (none))
def kimberliteref01_Parse.j6 : Nat → ByteArray → List (S41) → Int → Int → Int → Int → Bool → Option ((List (S41)) × Int)
 | 0, _, _, _, _, _, _, _ => none
 | k + 1, x0, x4, x5, x6, x10, x12, x90 => if x90 = true then (some (([] : List (S41)), 5)) else (if x4.length < 8796093022208 then (kimberliteref01_Parse.l0 k x0 (x4 ++ [(⟨x10, x12⟩ : S41)]) x5 (wrap64 (x6 + 1))) else (none))
def kimberliteref01_Parse.j7 : Nat → List (S41) → Bool → Option ((List (S41)) × Int)
 | 0, _, _ => none
 | k + 1, x4, x108 => if x108 = true then (some (([] : List (S41)), 5)) else (some (x4, 0))
end
def kimberliteref01_Parse.f (k : Nat) (a0 : ByteArray) : Option ((List (S41)) × Int) := if a0.toList = ([45] : List UInt8) then (some (([] : List (S41)), 0)) else (kimberliteref01_Parse.l0 k a0 ([] : List (S41)) 0 0)
theorem kimberliteref01_Parse.mono_l : ∀ k, (∀ y0 y1 y2 y3, LeO (kimberliteref01_Parse.l0 k y0 y1 y2 y3) (kimberliteref01_Parse.l0 (k + 1) y0 y1 y2 y3)) ∧ (∀ y0 y1 y2 y3 y4, LeO (kimberliteref01_Parse.j1 k y0 y1 y2 y3 y4) (kimberliteref01_Parse.j1 (k + 1) y0 y1 y2 y3 y4)) ∧ (∀ y0 y1 y2 y3 y4 y5 y6, LeO (kimberliteref01_Parse.l1 k y0 y1 y2 y3 y4 y5 y6) (kimberliteref01_Parse.l1 (k + 1) y0 y1 y2 y3 y4 y5 y6)) ∧ (∀ y0 y1 y2 y3 y4 y5 y6 y7, LeO (kimberliteref01_Parse.j3 k y0 y1 y2 y3 y4 y5 y6 y7) (kimberliteref01_Parse.j3 (k + 1) y0 y1 y2 y3 y4 y5 y6 y7)) ∧ (∀ y0 y1 y2 y3 y4 y5 y6 y7, LeO (kimberliteref01_Parse.j4 k y0 y1 y2 y3 y4 y5 y6 y7) (kimberliteref01_Parse.j4 (k + 1) y0 y1 y2 y3 y4 y5 y6 y7)) ∧ (∀ y0 y1 y2 y3 y4 y5 y6, LeO (kimberliteref01_Parse.j5 k y0 y1 y2 y3 y4 y5 y6) (kimberliteref01_Parse.j5 (k + 1) y0 y1 y2 y3 y4 y5 y6)) ∧ (∀ y0 y1 y2 y3 y4 y5 y6, LeO (kimberliteref01_Parse.j6 k y0 y1 y2 y3 y4 y5 y6) (kimberliteref01_Parse.j6 (k + 1) y0 y1 y2 y3 y4 y5 y6)) ∧ (∀ y0 y1, LeO (kimberliteref01_Parse.j7 k y0 y1) (kimberliteref01_Parse.j7 (k + 1) y0 y1))
 | 0 => ⟨fun _ _ _ _ r h => by simp [kimberliteref01_Parse.l0] at h, fun _ _ _ _ _ r h => by simp [kimberliteref01_Parse.j1] at h, fun _ _ _ _ _ _ _ r h => by simp [kimberliteref01_Parse.l1] at h, fun _ _ _ _ _ _ _ _ r h => by simp [kimberliteref01_Parse.j3] at h, fun _ _ _ _ _ _ _ _ r h => by simp [kimberliteref01_Parse.j4] at h, fun _ _ _ _ _ _ _ r h => by simp [kimberliteref01_Parse.j5] at h, fun _ _ _ _ _ _ _ r h => by simp [kimberliteref01_Parse.j6] at h, fun _ _ r h => by simp [kimberliteref01_Parse.j7] at h⟩
 | k + 1 => by
  obtain ⟨ih0, ih1, ih2, ih3, ih4, ih5, ih6, ih7⟩ := kimberliteref01_Parse.mono_l k
  refine ⟨?_, ?_, ?_, ?_, ?_, ?_, ?_, ?_⟩
  · intro y0 y1 y2 y3
    unfold kimberliteref01_Parse.l0
    repeat' first
    | (with_reducible exact ih0 _ _ _ _)
    | (with_reducible exact ih1 _ _ _ _ _)
    | (with_reducible exact ih2 _ _ _ _ _ _ _)
    | (with_reducible exact ih3 _ _ _ _ _ _ _ _)
    | (with_reducible exact ih4 _ _ _ _ _ _ _ _)
    | (with_reducible exact ih5 _ _ _ _ _ _ _)
    | (with_reducible exact ih6 _ _ _ _ _ _ _)
    | (with_reducible exact ih7 _ _)
    | (with_reducible exact kimberliteref01_Number.mono _ _)
    | (with_reducible exact kimberliteref01_Text.mono _ _)
    | (with_reducible exact LeO.refl _)
    | (with_reducible exact LeO.none _)
    | (with_reducible refine LeO.ite ?_ ?_)
    | (with_reducible refine LeO.bind ?_ (fun _ => ?_))
    | exact ih0 _ _ _ _
    | exact ih1 _ _ _ _ _
    | exact ih2 _ _ _ _ _ _ _
    | exact ih3 _ _ _ _ _ _ _ _
    | exact ih4 _ _ _ _ _ _ _ _
    | exact ih5 _ _ _ _ _ _ _
    | exact ih6 _ _ _ _ _ _ _
    | exact ih7 _ _
    | exact kimberliteref01_Number.mono _ _
    | exact kimberliteref01_Text.mono _ _
    | exact LeO.none _
    | refine LeO.ite ?_ ?_
    | refine LeO.bind ?_ (fun _ => ?_)
  · intro y0 y1 y2 y3 y4
    unfold kimberliteref01_Parse.j1
    repeat' first
    | (with_reducible exact ih0 _ _ _ _)
    | (with_reducible exact ih1 _ _ _ _ _)
    | (with_reducible exact ih2 _ _ _ _ _ _ _)
    | (with_reducible exact ih3 _ _ _ _ _ _ _ _)
    | (with_reducible exact ih4 _ _ _ _ _ _ _ _)
    | (with_reducible exact ih5 _ _ _ _ _ _ _)
    | (with_reducible exact ih6 _ _ _ _ _ _ _)
    | (with_reducible exact ih7 _ _)
    | (with_reducible exact kimberliteref01_Number.mono _ _)
    | (with_reducible exact kimberliteref01_Text.mono _ _)
    | (with_reducible exact LeO.refl _)
    | (with_reducible exact LeO.none _)
    | (with_reducible refine LeO.ite ?_ ?_)
    | (with_reducible refine LeO.bind ?_ (fun _ => ?_))
    | exact ih0 _ _ _ _
    | exact ih1 _ _ _ _ _
    | exact ih2 _ _ _ _ _ _ _
    | exact ih3 _ _ _ _ _ _ _ _
    | exact ih4 _ _ _ _ _ _ _ _
    | exact ih5 _ _ _ _ _ _ _
    | exact ih6 _ _ _ _ _ _ _
    | exact ih7 _ _
    | exact kimberliteref01_Number.mono _ _
    | exact kimberliteref01_Text.mono _ _
    | exact LeO.none _
    | refine LeO.ite ?_ ?_
    | refine LeO.bind ?_ (fun _ => ?_)
  · intro y0 y1 y2 y3 y4 y5 y6
    unfold kimberliteref01_Parse.l1
    repeat' first
    | (with_reducible exact ih0 _ _ _ _)
    | (with_reducible exact ih1 _ _ _ _ _)
    | (with_reducible exact ih2 _ _ _ _ _ _ _)
    | (with_reducible exact ih3 _ _ _ _ _ _ _ _)
    | (with_reducible exact ih4 _ _ _ _ _ _ _ _)
    | (with_reducible exact ih5 _ _ _ _ _ _ _)
    | (with_reducible exact ih6 _ _ _ _ _ _ _)
    | (with_reducible exact ih7 _ _)
    | (with_reducible exact kimberliteref01_Number.mono _ _)
    | (with_reducible exact kimberliteref01_Text.mono _ _)
    | (with_reducible exact LeO.refl _)
    | (with_reducible exact LeO.none _)
    | (with_reducible refine LeO.ite ?_ ?_)
    | (with_reducible refine LeO.bind ?_ (fun _ => ?_))
    | exact ih0 _ _ _ _
    | exact ih1 _ _ _ _ _
    | exact ih2 _ _ _ _ _ _ _
    | exact ih3 _ _ _ _ _ _ _ _
    | exact ih4 _ _ _ _ _ _ _ _
    | exact ih5 _ _ _ _ _ _ _
    | exact ih6 _ _ _ _ _ _ _
    | exact ih7 _ _
    | exact kimberliteref01_Number.mono _ _
    | exact kimberliteref01_Text.mono _ _
    | exact LeO.none _
    | refine LeO.ite ?_ ?_
    | refine LeO.bind ?_ (fun _ => ?_)
  · intro y0 y1 y2 y3 y4 y5 y6 y7
    unfold kimberliteref01_Parse.j3
    repeat' first
    | (with_reducible exact ih0 _ _ _ _)
    | (with_reducible exact ih1 _ _ _ _ _)
    | (with_reducible exact ih2 _ _ _ _ _ _ _)
    | (with_reducible exact ih3 _ _ _ _ _ _ _ _)
    | (with_reducible exact ih4 _ _ _ _ _ _ _ _)
    | (with_reducible exact ih5 _ _ _ _ _ _ _)
    | (with_reducible exact ih6 _ _ _ _ _ _ _)
    | (with_reducible exact ih7 _ _)
    | (with_reducible exact kimberliteref01_Number.mono _ _)
    | (with_reducible exact kimberliteref01_Text.mono _ _)
    | (with_reducible exact LeO.refl _)
    | (with_reducible exact LeO.none _)
    | (with_reducible refine LeO.ite ?_ ?_)
    | (with_reducible refine LeO.bind ?_ (fun _ => ?_))
    | exact ih0 _ _ _ _
    | exact ih1 _ _ _ _ _
    | exact ih2 _ _ _ _ _ _ _
    | exact ih3 _ _ _ _ _ _ _ _
    | exact ih4 _ _ _ _ _ _ _ _
    | exact ih5 _ _ _ _ _ _ _
    | exact ih6 _ _ _ _ _ _ _
    | exact ih7 _ _
    | exact kimberliteref01_Number.mono _ _
    | exact kimberliteref01_Text.mono _ _
    | exact LeO.none _
    | refine LeO.ite ?_ ?_
    | refine LeO.bind ?_ (fun _ => ?_)
  · intro y0 y1 y2 y3 y4 y5 y6 y7
    unfold kimberliteref01_Parse.j4
    repeat' first
    | (with_reducible exact ih0 _ _ _ _)
    | (with_reducible exact ih1 _ _ _ _ _)
    | (with_reducible exact ih2 _ _ _ _ _ _ _)
    | (with_reducible exact ih3 _ _ _ _ _ _ _ _)
    | (with_reducible exact ih4 _ _ _ _ _ _ _ _)
    | (with_reducible exact ih5 _ _ _ _ _ _ _)
    | (with_reducible exact ih6 _ _ _ _ _ _ _)
    | (with_reducible exact ih7 _ _)
    | (with_reducible exact kimberliteref01_Number.mono _ _)
    | (with_reducible exact kimberliteref01_Text.mono _ _)
    | (with_reducible exact LeO.refl _)
    | (with_reducible exact LeO.none _)
    | (with_reducible refine LeO.ite ?_ ?_)
    | (with_reducible refine LeO.bind ?_ (fun _ => ?_))
    | exact ih0 _ _ _ _
    | exact ih1 _ _ _ _ _
    | exact ih2 _ _ _ _ _ _ _
    | exact ih3 _ _ _ _ _ _ _ _
    | exact ih4 _ _ _ _ _ _ _ _
    | exact ih5 _ _ _ _ _ _ _
    | exact ih6 _ _ _ _ _ _ _
    | exact ih7 _ _
    | exact kimberliteref01_Number.mono _ _
    | exact kimberliteref01_Text.mono _ _
    | exact LeO.none _
    | refine LeO.ite ?_ ?_
    | refine LeO.bind ?_ (fun _ => ?_)
  · intro y0 y1 y2 y3 y4 y5 y6
    unfold kimberliteref01_Parse.j5
    repeat' first
    | (with_reducible exact ih0 _ _ _ _)
    | (with_reducible exact ih1 _ _ _ _ _)
    | (with_reducible exact ih2 _ _ _ _ _ _ _)
    | (with_reducible exact ih3 _ _ _ _ _ _ _ _)
    | (with_reducible exact ih4 _ _ _ _ _ _ _ _)
    | (with_reducible exact ih5 _ _ _ _ _ _ _)
    | (with_reducible exact ih6 _ _ _ _ _ _ _)
    | (with_reducible exact ih7 _ _)
    | (with_reducible exact kimberliteref01_Number.mono _ _)
    | (with_reducible exact kimberliteref01_Text.mono _ _)
    | (with_reducible exact LeO.refl _)
    | (with_reducible exact LeO.none _)
    | (with_reducible refine LeO.ite ?_ ?_)
    | (with_reducible refine LeO.bind ?_ (fun _ => ?_))
    | exact ih0 _ _ _ _
    | exact ih1 _ _ _ _ _
    | exact ih2 _ _ _ _ _ _ _
    | exact ih3 _ _ _ _ _ _ _ _
    | exact ih4 _ _ _ _ _ _ _ _
    | exact ih5 _ _ _ _ _ _ _
    | exact ih6 _ _ _ _ _ _ _
    | exact ih7 _ _
    | exact kimberliteref01_Number.mono _ _
    | exact kimberliteref01_Text.mono _ _
    | exact LeO.none _
    | refine LeO.ite ?_ ?_
    | refine LeO.bind ?_ (fun _ => ?_)
  · intro y0 y1 y2 y3 y4 y5 y6
    unfold kimberliteref01_Parse.j6
    repeat' first
    | (with_reducible exact ih0 _ _ _ _)
    | (with_reducible exact ih1 _ _ _ _ _)
    | (with_reducible exact ih2 _ _ _ _ _ _ _)
    | (with_reducible exact ih3 _ _ _ _ _ _ _ _)
    | (with_reducible exact ih4 _ _ _ _ _ _ _ _)
    | (with_reducible exact ih5 _ _ _ _ _ _ _)
    | (with_reducible exact ih6 _ _ _ _ _ _ _)
    | (with_reducible exact ih7 _ _)
    | (with_reducible exact kimberliteref01_Number.mono _ _)
    | (with_reducible exact kimberliteref01_Text.mono _ _)
    | (with_reducible exact LeO.refl _)
    | (with_reducible exact LeO.none _)
    | (with_reducible refine LeO.ite ?_ ?_)
    | (with_reducible refine LeO.bind ?_ (fun _ => ?_))
    | exact ih0 _ _ _ _
    | exact ih1 _ _ _ _ _
    | exact ih2 _ _ _ _ _ _ _
    | exact ih3 _ _ _ _ _ _ _ _
    | exact ih4 _ _ _ _ _ _ _ _
    | exact ih5 _ _ _ _ _ _ _
    | exact ih6 _ _ _ _ _ _ _
    | exact ih7 _ _
    | exact kimberliteref01_Number.mono _ _
    | exact kimberliteref01_Text.mono _ _
    | exact LeO.none _
    | refine LeO.ite ?_ ?_
    | refine LeO.bind ?_ (fun _ => ?_)
  · intro y0 y1
    unfold kimberliteref01_Parse.j7
    repeat' first
    | (with_reducible exact ih0 _ _ _ _)
    | (with_reducible exact ih1 _ _ _ _ _)
    | (with_reducible exact ih2 _ _ _ _ _ _ _)
    | (with_reducible exact ih3 _ _ _ _ _ _ _ _)
    | (with_reducible exact ih4 _ _ _ _ _ _ _ _)
    | (with_reducible exact ih5 _ _ _ _ _ _ _)
    | (with_reducible exact ih6 _ _ _ _ _ _ _)
    | (with_reducible exact ih7 _ _)
    | (with_reducible exact kimberliteref01_Number.mono _ _)
    | (with_reducible exact kimberliteref01_Text.mono _ _)
    | (with_reducible exact LeO.refl _)
    | (with_reducible exact LeO.none _)
    | (with_reducible refine LeO.ite ?_ ?_)
    | (with_reducible refine LeO.bind ?_ (fun _ => ?_))
    | exact ih0 _ _ _ _
    | exact ih1 _ _ _ _ _
    | exact ih2 _ _ _ _ _ _ _
    | exact ih3 _ _ _ _ _ _ _ _
    | exact ih4 _ _ _ _ _ _ _ _
    | exact ih5 _ _ _ _ _ _ _
    | exact ih6 _ _ _ _ _ _ _
    | exact ih7 _ _
    | exact kimberliteref01_Number.mono _ _
    | exact kimberliteref01_Text.mono _ _
    | exact LeO.none _
    | refine LeO.ite ?_ ?_
    | refine LeO.bind ?_ (fun _ => ?_)
theorem kimberliteref01_Parse.mono : ∀ a0 k, LeO (kimberliteref01_Parse.f k a0) (kimberliteref01_Parse.f (k + 1) a0) := by
 intro a0 k
 obtain ⟨ih0, ih1, ih2, ih3, ih4, ih5, ih6, ih7⟩ := kimberliteref01_Parse.mono_l k
 unfold kimberliteref01_Parse.f
 repeat' first
  | (with_reducible exact ih0 _ _ _ _)
  | (with_reducible exact ih1 _ _ _ _ _)
  | (with_reducible exact ih2 _ _ _ _ _ _ _)
  | (with_reducible exact ih3 _ _ _ _ _ _ _ _)
  | (with_reducible exact ih4 _ _ _ _ _ _ _ _)
  | (with_reducible exact ih5 _ _ _ _ _ _ _)
  | (with_reducible exact ih6 _ _ _ _ _ _ _)
  | (with_reducible exact ih7 _ _)
  | (with_reducible exact kimberliteref01_Number.mono _ _)
  | (with_reducible exact kimberliteref01_Text.mono _ _)
  | (with_reducible exact LeO.refl _)
  | (with_reducible exact LeO.none _)
  | (with_reducible refine LeO.ite ?_ ?_)
  | (with_reducible refine LeO.bind ?_ (fun _ => ?_))
  | exact ih0 _ _ _ _
  | exact ih1 _ _ _ _ _
  | exact ih2 _ _ _ _ _ _ _
  | exact ih3 _ _ _ _ _ _ _ _
  | exact ih4 _ _ _ _ _ _ _ _
  | exact ih5 _ _ _ _ _ _ _
  | exact ih6 _ _ _ _ _ _ _
  | exact ih7 _ _
  | exact kimberliteref01_Number.mono _ _
  | exact kimberliteref01_Text.mono _ _
  | exact LeO.none _
  | refine LeO.ite ?_ ?_
  | refine LeO.bind ?_ (fun _ => ?_)
set_option maxHeartbeats 8000000 in
set_option maxRecDepth 100000 in
theorem kimberliteref01_Parse.calls (k : Nat) (a0 : ByteArray) (r1 : List (S41)) (r2 : Int) (w : World) (h : kimberliteref01_Parse.f k a0 = some (r1, r2)) :
 Calls Tryz.prog 10 #[.string a0] w fun e w' => ∃ v0_ : Value, e = .returned (.tuple #[v0_, .int .i64 r2]) ∧ Kd.R k41 41 w' w.heap.size (fun _ => True) v0_ r1 ∧ Below w.heap.size w w' := by
 have hu41 := Tryz.underlying41
 have HB := Aside0.mk (Below.refl w.heap.size w)
 have H : (if a0.toList = ([45] : List UInt8) then (some (([] : List (S41)), 0)) else (kimberliteref01_Parse.l0 k a0 ([] : List (S41)) 0 0)) = some (r1, r2) := h
 clear h
 by_cases c2 : a0.toList = ([45] : List UInt8)
 · rw [if_pos c2] at H
   have c2b0 : (a0.toList == ([45] : List UInt8)) = true := beq_iff_eq.mpr c2
   have c2b1 : (a0.toList != ([45] : List UInt8)) = false := bne_eq_false_iff_eq.mpr c2
   clear c2
   simp only [Option.some.injEq, Prod.mk.injEq] at H
   obtain ⟨rfl, rfl⟩ := H
   go_enter Tryz.func10, Tryz.ntmps10
   go_wp2
   go_ret2
   exact ⟨_, by first | rfl | (simp [errW_none, errW_some] <;> rfl) | (simp [*, errW_none, errW_some] <;> rfl), by first | exact Kd.R_nil _ _ _ _ _ | exact Kd.N_nil _ _ _ _ _ | exact Kd.V_nil _ _ _ _ _ | exact Kd.Q_nil _ _ _ _ _ | exact Kd.S_nil _ _ _ _ _, by repeat (first | (with_reducible first | exact HB.out | apply below_alloc | apply pw_below_drewN | apply below_drew1) | exact HB.out)⟩
 · rw [if_neg c2] at H
   have c2b0 : (a0.toList == ([45] : List UInt8)) = false := beq_eq_false_iff_ne.mpr c2
   have c2b1 : (a0.toList != ([45] : List UInt8)) = true := bne_iff_ne.mpr c2
   have H' := Aside0.mk H
   clear H
   go_enter Tryz.func10, Tryz.ntmps10
   go_wp2
   go_loopg [4, 5, 6] k (fun kq v4 v5 v6 w' => ∃ (x4_1 : List (S41)) (x5_1 : Int) (x6_1 : Int), v5 = .int .i64 x5_1 ∧ v6 = .int .i64 x6_1 ∧ Aside0 (kimberliteref01_Parse.l0 kq a0 x4_1 x5_1 x6_1 = some (r1, r2)) ∧ Aside0 (kq ≤ k) ∧ Aside0 (Kd.R k41 41 w' w.heap.size (fun _ => True) v4 x4_1) ∧ Aside0 (Below w.heap.size w w'))
   case atStart => exact ⟨(([] : List (S41))), (0), (0), (by first | rfl | (simp; done) | (simp [*]; done)), (by first | rfl | (simp; done) | (simp [*]; done)), H', ⟨Nat.le_refl _⟩, ⟨by first | exact Kd.R_nil _ _ _ _ _ | exact Kd.N_nil _ _ _ _ _ | exact Kd.V_nil _ _ _ _ _ | exact Kd.Q_nil _ _ _ _ _ | exact Kd.S_nil _ _ _ _ _⟩, ⟨by repeat (first | (with_reducible first | exact HB.out | apply below_alloc | apply pw_below_drewN | apply below_drew1) | exact HB.out)⟩⟩
   case round =>
    clear H'
    try clear c1
    try clear c2
    try clear c2b0
    try clear c2b1
    try clear p2
    obtain ⟨x4_1, x5_1, x6_1, rfl, rfl, HA, HK1, HO_4, HB⟩ := hrel
    cases gk with
    | zero => exact absurd HA.out (by simp [kimberliteref01_Parse.l0])
    | succ k1 =>
     have H := HA.out
     clear HA
     simp only [kimberliteref01_Parse.l0] at H
     by_cases c3 : x6_1 ≤ (a0.size : Int)
     · rw [if_pos c3] at H
       have c3b0 : decide (x6_1 ≤ (a0.size : Int)) = true := decide_eq_true c3
       clear c3
       have HC4 := Aside0.mk H
       clear H
       go_upto_region 8 with (fail)
       go_cut [33] (fun v33 wc => ∃ (kq : Nat) (x33_3 : Bool), v33 = .bool x33_3 ∧ Aside0 (kimberliteref01_Parse.j1 kq a0 x4_1 x5_1 x6_1 x33_3 = some (r1, r2)) ∧ Aside0 (kq ≤ k1) ∧ Aside0 (Kd.R k41 41 wc w.heap.size (fun _ => True) u4 x4_1) ∧ Aside0 (Below w.heap.size w wc))
       case first =>
        have H := HC4.out
        clear HC4
        by_cases c5 : x6_1 < (a0.size : Int)
        · rw [if_pos c5] at H
          have c5b0 : decide (x6_1 < (a0.size : Int)) = true := decide_eq_true c5
          clear c5
          (first | rw [c5b0] | (simp only [i64_w, i32_w]; rw [c5b0]) | skip)
          by_cases c6 : 0 ≤ x6_1
          · rw [if_pos c6] at H
            have c6b0 : decide (0 ≤ x6_1) = true := decide_eq_true c6
            clear c6
            have H' := Aside0.mk H
            clear H
            have p7 : 0 ≤ (x6_1 : Int) := of_decide_eq_true (by first | (with_reducible assumption) | assumption)
            have q7 : x6_1 < (a0.size : Int) := of_decide_eq_true (by first | (with_reducible assumption) | assumption)
            have hx7 := bt_at a0 x6_1
            replace p7 := eq_true p7
            replace q7 := eq_true q7
            go_wp2
            go_meet
            case rel => exact ⟨_, (((bt a0 x6_1) != 32)), (by first | rfl | (simp; done) | (simp [*]; done)), H', ⟨by have := HK1.out; first | omega | exact Nat.le_refl _⟩, ⟨by (with_reducible repeat (first | apply Kd.R_alloc | apply Kd.R_drewN | apply Kd.R_drew)); exact HO_4.out⟩, ⟨by repeat (first | (with_reducible first | exact HB.out | apply below_alloc | apply pw_below_drewN | apply below_drew1) | exact HB.out)⟩⟩
          · rw [if_neg c6] at H
            exact absurd H (by simp)
        · rw [if_neg c5] at H
          have c5b0 : decide (x6_1 < (a0.size : Int)) = false := decide_eq_false c5
          clear c5
          (first | rw [c5b0] | (simp only [i64_w, i32_w]; rw [c5b0]) | skip)
          have H' := Aside0.mk H
          clear H
          go_wp2
          go_meet
          case rel => exact ⟨_, (false), (by first | rfl | (simp; done) | (simp [*]; done)), H', ⟨by have := HK1.out; first | omega | exact Nat.le_refl _⟩, ⟨by (with_reducible repeat (first | apply Kd.R_alloc | apply Kd.R_drewN | apply Kd.R_drew)); exact HO_4.out⟩, ⟨by repeat (first | (with_reducible first | exact HB.out | apply below_alloc | apply pw_below_drewN | apply below_drew1) | exact HB.out)⟩⟩
       case rest =>
        clear HC4
        try clear c1
        try clear c2
        try clear c2b0
        try clear c2b1
        try clear p2
        try clear c3
        try clear c3b0
        try clear c5
        try clear c5b0
        try clear c6
        try clear c6b0
        try clear p7
        try clear q7
        try clear hx7
        try clear p2
        try clear p7
        try clear q7
        obtain ⟨kq, x33_3, rfl, HA, HJ3, HO_4, HB⟩ := hcut
        cases kq with
        | zero => exact absurd HA.out (by simp [kimberliteref01_Parse.j1])
        | succ kj3 =>
         have H := HA.out
         clear HA
         simp only [kimberliteref01_Parse.j1] at H
         by_cases c8 : x33_3 = true
         · subst c8
           have H1 : (kimberliteref01_Parse.l0 kj3 a0 x4_1 x5_1 (wrap64 (x6_1 + 1))) = some (r1, r2) := by rw [if_pos rfl] at H; exact H
           clear H
           have H := H1
           clear H1
           have H' := Aside0.mk H
           clear H
           go_wp2
           go_roundg kj3
           case measure => have := HK1.out; have := HJ3.out; omega
           case rel => exact ⟨(x4_1), (x5_1), (wrap64 (x6_1 + 1)), (by first | rfl | (simp; done) | (simp [*]; done)), (by first | rfl | (simp; done) | (simp [*]; done)), H', ⟨by have := HK1.out; have := HJ3.out; omega⟩, ⟨by (with_reducible repeat (first | apply Kd.R_alloc | apply Kd.R_drewN | apply Kd.R_drew)); exact HO_4.out⟩, ⟨by repeat (first | (with_reducible first | exact HB.out | apply below_alloc | apply pw_below_drewN | apply below_drew1) | exact HB.out)⟩⟩
         · replace c8 := Bool.eq_false_iff.mpr c8
           subst c8
           have H1 : (if 0 ≤ x5_1 then (if x5_1 ≤ x6_1 then (if x6_1 ≤ (a0.size : Int) then (kimberliteref01_Parse.l1 kj3 a0 x4_1 (wrap64 (x6_1 + 1)) x6_1 (a0.extract (x5_1 : Int).toNat (x6_1 : Int).toNat) (-1) 0) else (none)) else (none)) else (none)) = some (r1, r2) := by rw [if_neg (show ¬ (false = true) by decide)] at H; exact H
           clear H
           have H := H1
           clear H1
           by_cases c9 : 0 ≤ x5_1
           · rw [if_pos c9] at H
             have c9b0 := eq_true c9
             have c9b1 : decide (0 ≤ x5_1) = true := decide_eq_true c9
             clear c9
             by_cases c10 : x5_1 ≤ x6_1
             · rw [if_pos c10] at H
               have c10b0 := eq_true c10
               have c10b1 : decide (x5_1 ≤ x6_1) = true := decide_eq_true c10
               clear c10
               by_cases c11 : x6_1 ≤ (a0.size : Int)
               · rw [if_pos c11] at H
                 have c11b0 := eq_true c11
                 have c11b1 : decide (x6_1 ≤ (a0.size : Int)) = true := decide_eq_true c11
                 clear c11
                 have H' := Aside0.mk H
                 clear H
                 go_wp2
                 generalize a0.extract (x5_1 : Int).toNat (x6_1 : Int).toNat = pc_ at H' ⊢
                 go_loopg [8, 9] kj3 (fun kq v8 v9 w' => ∃ (x8_3 : Int) (x9_3 : Int), v8 = .int .i64 x8_3 ∧ v9 = .int .i64 x9_3 ∧ Aside0 (kimberliteref01_Parse.l1 kq a0 x4_1 (wrap64 (x6_1 + 1)) x6_1 pc_ x8_3 x9_3 = some (r1, r2)) ∧ Aside0 (kq ≤ kj3) ∧ Aside0 (Kd.R k41 41 w' w.heap.size (fun _ => True) u4 x4_1) ∧ Aside0 (Below w.heap.size w w'))
                 case atStart => exact ⟨((-1)), (0), (by first | rfl | (simp; done) | (simp [*]; done)), (by first | rfl | (simp; done) | (simp [*]; done)), H', ⟨Nat.le_refl _⟩, ⟨by (with_reducible repeat (first | apply Kd.R_alloc | apply Kd.R_drewN | apply Kd.R_drew)); exact HO_4.out⟩, ⟨by repeat (first | (with_reducible first | exact HB.out | apply below_alloc | apply pw_below_drewN | apply below_drew1) | exact HB.out)⟩⟩
                 case round =>
                  clear H'
                  try clear c1
                  try clear c2
                  try clear c2b0
                  try clear c2b1
                  try clear p2
                  try clear c3
                  try clear c3b0
                  try clear c5
                  try clear c5b0
                  try clear c6
                  try clear c6b0
                  try clear p6
                  try clear p7
                  try clear q7
                  try clear hx7
                  try clear c8
                  try clear c9
                  try clear c9b0
                  try clear c9b1
                  try clear c10
                  try clear c10b0
                  try clear c10b1
                  try clear c11
                  try clear c11b0
                  try clear c11b1
                  try clear p2
                  try clear p7
                  try clear q7
                  obtain ⟨x8_3, x9_3, rfl, rfl, HA, HK3, HO_4, HB⟩ := hrel
                  cases gk with
                  | zero => exact absurd HA.out (by simp [kimberliteref01_Parse.l1])
                  | succ k3 =>
                   have H := HA.out
                   clear HA
                   simp only [kimberliteref01_Parse.l1] at H
                   have HC12 := Aside0.mk H
                   clear H
                   go_upto_region 13 with (fail)
                   go_cut [48] (fun v48 wc => ∃ (kq : Nat) (x48_11 : Bool), v48 = .bool x48_11 ∧ Aside0 (kimberliteref01_Parse.j3 kq a0 x4_1 (wrap64 (x6_1 + 1)) x6_1 pc_ x8_3 x9_3 x48_11 = some (r1, r2)) ∧ Aside0 (kq ≤ k3) ∧ Aside0 (Kd.R k41 41 wc w.heap.size (fun _ => True) u4 x4_1) ∧ Aside0 (Below w.heap.size w wc))
                   case first =>
                    have H := HC12.out
                    clear HC12
                    by_cases c13 : (wrap64 (x9_3 + 1)) < (pc_.size : Int)
                    · rw [if_pos c13] at H
                      have c13b0 : decide ((wrap64 (x9_3 + 1)) < (pc_.size : Int)) = true := decide_eq_true c13
                      clear c13
                      (first | rw [c13b0] | (simp only [i64_w, i32_w]; rw [c13b0]) | skip)
                      have H' := Aside0.mk H
                      clear H
                      go_wp2
                      go_meet
                      case rel => exact ⟨_, (decide (x8_3 < 0)), (by first | rfl | (simp; done) | (simp [*]; done)), H', ⟨by have := HK1.out; have := HJ3.out; have := HK3.out; first | omega | exact Nat.le_refl _⟩, ⟨by (with_reducible repeat (first | apply Kd.R_alloc | apply Kd.R_drewN | apply Kd.R_drew)); exact HO_4.out⟩, ⟨by repeat (first | (with_reducible first | exact HB.out | apply below_alloc | apply pw_below_drewN | apply below_drew1) | exact HB.out)⟩⟩
                    · rw [if_neg c13] at H
                      have c13b0 : decide ((wrap64 (x9_3 + 1)) < (pc_.size : Int)) = false := decide_eq_false c13
                      clear c13
                      (first | rw [c13b0] | (simp only [i64_w, i32_w]; rw [c13b0]) | skip)
                      have H' := Aside0.mk H
                      clear H
                      go_wp2
                      go_meet
                      case rel => exact ⟨_, (false), (by first | rfl | (simp; done) | (simp [*]; done)), H', ⟨by have := HK1.out; have := HJ3.out; have := HK3.out; first | omega | exact Nat.le_refl _⟩, ⟨by (with_reducible repeat (first | apply Kd.R_alloc | apply Kd.R_drewN | apply Kd.R_drew)); exact HO_4.out⟩, ⟨by repeat (first | (with_reducible first | exact HB.out | apply below_alloc | apply pw_below_drewN | apply below_drew1) | exact HB.out)⟩⟩
                   case rest =>
                    clear HC12
                    try clear c1
                    try clear c2
                    try clear c2b0
                    try clear c2b1
                    try clear p2
                    try clear c3
                    try clear c3b0
                    try clear c5
                    try clear c5b0
                    try clear c6
                    try clear c6b0
                    try clear p6
                    try clear p7
                    try clear q7
                    try clear hx7
                    try clear c8
                    try clear c9
                    try clear c9b0
                    try clear c9b1
                    try clear c10
                    try clear c10b0
                    try clear c10b1
                    try clear c11
                    try clear c11b0
                    try clear c11b1
                    try clear c13
                    try clear c13b0
                    try clear p2
                    try clear p6
                    try clear p7
                    try clear q7
                    obtain ⟨kq, x48_11, rfl, HA, HJ11, HO_4, HB⟩ := hcut
                    cases kq with
                    | zero => exact absurd HA.out (by simp [kimberliteref01_Parse.j3])
                    | succ kj11 =>
                     have H := HA.out
                     clear HA
                     simp only [kimberliteref01_Parse.j3] at H
                     by_cases c14 : x48_11 = true
                     · subst c14
                       have H1 : (if 0 ≤ x9_3 then (if x9_3 < (pc_.size : Int) then (if (bt pc_ x9_3) = 46 then (if 0 ≤ (wrap64 (x9_3 + 1)) then (if (wrap64 (x9_3 + 1)) < (pc_.size : Int) then (kimberliteref01_Parse.j4 kj11 a0 x4_1 (wrap64 (x6_1 + 1)) x6_1 pc_ x8_3 x9_3 ((bt pc_ (wrap64 (x9_3 + 1))) == 46)) else (none)) else (none)) else (kimberliteref01_Parse.j4 kj11 a0 x4_1 (wrap64 (x6_1 + 1)) x6_1 pc_ x8_3 x9_3 false)) else (none)) else (none)) = some (r1, r2) := by rw [if_pos rfl] at H; exact H
                       clear H
                       have H := H1
                       clear H1
                       have HC15 := Aside0.mk H
                       clear H
                       go_upto_region 15 with (fail)
                       go_cut [61] (fun v61 wc => ∃ (kq : Nat) (x61_14 : Bool), v61 = .bool x61_14 ∧ Aside0 (kimberliteref01_Parse.j4 kq a0 x4_1 (wrap64 (x6_1 + 1)) x6_1 pc_ x8_3 x9_3 x61_14 = some (r1, r2)) ∧ Aside0 (kq ≤ kj11) ∧ Aside0 (Kd.R k41 41 wc w.heap.size (fun _ => True) u4 x4_1) ∧ Aside0 (Below w.heap.size w wc))
                       case first =>
                        have H := HC15.out
                        clear HC15
                        by_cases c16 : 0 ≤ x9_3
                        · rw [if_pos c16] at H
                          have c16b0 : decide (0 ≤ x9_3) = true := decide_eq_true c16
                          clear c16
                          (first | rw [c16b0] | (simp only [i64_w, i32_w]; rw [c16b0]) | skip)
                          by_cases c17 : x9_3 < (pc_.size : Int)
                          · rw [if_pos c17] at H
                            have c17b0 : decide (x9_3 < (pc_.size : Int)) = true := decide_eq_true c17
                            clear c17
                            by_cases c19 : (bt pc_ x9_3) = 46
                            · rw [if_pos c19] at H
                              have c19b0 : ((bt pc_ x9_3) == 46) = true := beq_iff_eq.mpr c19
                              have c19b1 : ((bt pc_ x9_3) != 46) = false := bne_eq_false_iff_eq.mpr c19
                              clear c19
                              obtain ⟨ji20, hji20⟩ : ∃ j_ : Int, (wrap64 (x9_3 + 1)) = j_ := ⟨_, rfl⟩
                              replace H : (if 0 ≤ (ji20) then (if (ji20) < (pc_.size : Int) then (kimberliteref01_Parse.j4 kj11 a0 x4_1 (wrap64 (x6_1 + 1)) x6_1 pc_ x8_3 x9_3 ((bt pc_ (ji20)) == 46)) else (none)) else (none)) = some (r1, r2) := by first | (rw [hji20] at H; exact H) | (simp only [hji20] at H ⊢; exact H)
                              have hji20w : (IntKind.i64.wrap (x9_3 + 1)) = ji20 := (i64_w _).trans hji20
                              by_cases c21 : 0 ≤ (ji20)
                              · rw [if_pos c21] at H
                                have c21b0 : decide (0 ≤ (ji20)) = true := decide_eq_true c21
                                clear c21
                                by_cases c22 : (ji20) < (pc_.size : Int)
                                · rw [if_pos c22] at H
                                  have c22b0 : decide ((ji20) < (pc_.size : Int)) = true := decide_eq_true c22
                                  clear c22
                                  have H' := Aside0.mk H
                                  clear H
                                  have p18 : 0 ≤ (x9_3 : Int) := of_decide_eq_true (by first | (with_reducible assumption) | assumption)
                                  have q18 : x9_3 < (pc_.size : Int) := of_decide_eq_true (by first | (with_reducible assumption) | assumption)
                                  have hx18 := bt_at pc_ x9_3
                                  replace p18 := eq_true p18
                                  replace q18 := eq_true q18
                                  have p23 : 0 ≤ ((ji20) : Int) := of_decide_eq_true (by first | (with_reducible assumption) | assumption)
                                  have q23 : (ji20) < (pc_.size : Int) := of_decide_eq_true (by first | (with_reducible assumption) | assumption)
                                  have hx23 := bt_at pc_ (ji20)
                                  replace p23 := eq_true p23
                                  replace q23 := eq_true q23
                                  go_wp2
                                  go_meet
                                  case rel => exact ⟨_, (((bt pc_ (ji20)) == 46)), (by first | rfl | (simp; done) | (simp only [← hji20] <;> (first | rfl | simp)) | (simp [*]; done)), H', ⟨by have := HK1.out; have := HJ3.out; have := HK3.out; have := HJ11.out; first | omega | exact Nat.le_refl _⟩, ⟨by (with_reducible repeat (first | apply Kd.R_alloc | apply Kd.R_drewN | apply Kd.R_drew)); exact HO_4.out⟩, ⟨by repeat (first | (with_reducible first | exact HB.out | apply below_alloc | apply pw_below_drewN | apply below_drew1) | exact HB.out)⟩⟩
                                · rw [if_neg c22] at H
                                  exact absurd H (by simp)
                              · rw [if_neg c21] at H
                                exact absurd H (by simp)
                            · rw [if_neg c19] at H
                              have c19b0 : ((bt pc_ x9_3) == 46) = false := beq_eq_false_iff_ne.mpr c19
                              have c19b1 : ((bt pc_ x9_3) != 46) = true := bne_iff_ne.mpr c19
                              have H' := Aside0.mk H
                              clear H
                              have p18 : 0 ≤ (x9_3 : Int) := of_decide_eq_true (by first | (with_reducible assumption) | assumption)
                              have q18 : x9_3 < (pc_.size : Int) := of_decide_eq_true (by first | (with_reducible assumption) | assumption)
                              have hx18 := bt_at pc_ x9_3
                              replace p18 := eq_true p18
                              replace q18 := eq_true q18
                              go_wp2
                              go_meet
                              case rel => exact ⟨_, (false), (by first | rfl | (simp; done) | (simp [*]; done)), H', ⟨by have := HK1.out; have := HJ3.out; have := HK3.out; have := HJ11.out; first | omega | exact Nat.le_refl _⟩, ⟨by (with_reducible repeat (first | apply Kd.R_alloc | apply Kd.R_drewN | apply Kd.R_drew)); exact HO_4.out⟩, ⟨by repeat (first | (with_reducible first | exact HB.out | apply below_alloc | apply pw_below_drewN | apply below_drew1) | exact HB.out)⟩⟩
                          · rw [if_neg c17] at H
                            exact absurd H (by simp)
                        · rw [if_neg c16] at H
                          exact absurd H (by simp)
                       case rest =>
                        clear HC15
                        try clear c1
                        try clear p1
                        try clear q1
                        try clear hx1
                        try clear c2
                        try clear c2b0
                        try clear c2b1
                        try clear p2
                        try clear q2
                        try clear hx2
                        try clear c3
                        try clear c3b0
                        try clear c5
                        try clear c5b0
                        try clear c6
                        try clear c6b0
                        try clear p6
                        try clear p7
                        try clear q7
                        try clear hx7
                        try clear c8
                        try clear c9
                        try clear c9b0
                        try clear c9b1
                        try clear c10
                        try clear c10b0
                        try clear c10b1
                        try clear c11
                        try clear c11b0
                        try clear c11b1
                        try clear c13
                        try clear c13b0
                        try clear c14
                        try clear c16
                        try clear c16b0
                        try clear c17
                        try clear c17b0
                        try clear p18
                        try clear q18
                        try clear hx18
                        try clear c19
                        try clear c19b0
                        try clear c19b1
                        try clear c21
                        try clear c21b0
                        try clear c22
                        try clear c22b0
                        try clear p23
                        try clear q23
                        try clear hx23
                        try clear p18
                        try clear p2
                        try clear p23
                        try clear p6
                        try clear p7
                        try clear q18
                        try clear q23
                        try clear q7
                        obtain ⟨kq, x61_14, rfl, HA, HJ14, HO_4, HB⟩ := hcut
                        cases kq with
                        | zero => exact absurd HA.out (by simp [kimberliteref01_Parse.j4])
                        | succ kj14 =>
                         have H := HA.out
                         clear HA
                         simp only [kimberliteref01_Parse.j4] at H
                         by_cases c24 : x61_14 = true
                         · subst c24
                           have H1 : (kimberliteref01_Parse.l1 kj14 a0 x4_1 (wrap64 (x6_1 + 1)) x6_1 pc_ x9_3 (wrap64 (x9_3 + 1))) = some (r1, r2) := by rw [if_pos rfl] at H; exact H
                           clear H
                           have H := H1
                           clear H1
                           have H' := Aside0.mk H
                           clear H
                           go_wp2
                           go_roundg kj14
                           case measure => have := HK1.out; have := HJ3.out; have := HK3.out; have := HJ11.out; have := HJ14.out; omega
                           case rel => exact ⟨(x9_3), (wrap64 (x9_3 + 1)), (by first | rfl | (simp; done) | (simp [*]; done)), (by first | rfl | (simp; done) | (simp [*]; done)), H', ⟨by have := HK1.out; have := HJ3.out; have := HK3.out; have := HJ11.out; have := HJ14.out; omega⟩, ⟨by (with_reducible repeat (first | apply Kd.R_alloc | apply Kd.R_drewN | apply Kd.R_drew)); exact HO_4.out⟩, ⟨by repeat (first | (with_reducible first | exact HB.out | apply below_alloc | apply pw_below_drewN | apply below_drew1) | exact HB.out)⟩⟩
                         · replace c24 := Bool.eq_false_iff.mpr c24
                           subst c24
                           have H1 : (kimberliteref01_Parse.l1 kj14 a0 x4_1 (wrap64 (x6_1 + 1)) x6_1 pc_ x8_3 (wrap64 (x9_3 + 1))) = some (r1, r2) := by rw [if_neg (show ¬ (false = true) by decide)] at H; exact H
                           clear H
                           have H := H1
                           clear H1
                           have H' := Aside0.mk H
                           clear H
                           go_wp2
                           go_roundg kj14
                           case measure => have := HK1.out; have := HJ3.out; have := HK3.out; have := HJ11.out; have := HJ14.out; omega
                           case rel => exact ⟨(x8_3), (wrap64 (x9_3 + 1)), (by first | rfl | (simp; done) | (simp [*]; done)), (by first | rfl | (simp; done) | (simp [*]; done)), H', ⟨by have := HK1.out; have := HJ3.out; have := HK3.out; have := HJ11.out; have := HJ14.out; omega⟩, ⟨by (with_reducible repeat (first | apply Kd.R_alloc | apply Kd.R_drewN | apply Kd.R_drew)); exact HO_4.out⟩, ⟨by repeat (first | (with_reducible first | exact HB.out | apply below_alloc | apply pw_below_drewN | apply below_drew1) | exact HB.out)⟩⟩
                     · replace c14 := Bool.eq_false_iff.mpr c14
                       subst c14
                       have H1 : (if x8_3 < 0 then (kimberliteref01_Parse.j5 kj11 a0 x4_1 (wrap64 (x6_1 + 1)) x6_1 pc_ x8_3 true) else (kimberliteref01_Parse.j5 kj11 a0 x4_1 (wrap64 (x6_1 + 1)) x6_1 pc_ x8_3 (decide ((x4_1.length : Int) ≥ 128)))) = some (r1, r2) := by rw [if_neg (show ¬ (false = true) by decide)] at H; exact H
                       clear H
                       have H := H1
                       clear H1
                       have HC25 := Aside0.mk H
                       clear H
                       go_upto_region 17 with (fail)
                       go_cut [69] (fun v69 wc => ∃ (kq : Nat) (x69_24 : Bool), v69 = .bool x69_24 ∧ Aside0 (kimberliteref01_Parse.j5 kq a0 x4_1 (wrap64 (x6_1 + 1)) x6_1 pc_ x8_3 x69_24 = some (r1, r2)) ∧ Aside0 (kq ≤ kj11) ∧ Aside0 (Kd.R k41 41 wc w.heap.size (fun _ => True) u4 x4_1) ∧ Aside0 (Below w.heap.size w wc))
                       case first =>
                        have H := HC25.out
                        clear HC25
                        by_cases c26 : x8_3 < 0
                        · rw [if_pos c26] at H
                          have c26b0 : decide (x8_3 < 0) = true := decide_eq_true c26
                          clear c26
                          (first | rw [c26b0] | (simp only [i64_w, i32_w]; rw [c26b0]) | skip)
                          have H' := Aside0.mk H
                          clear H
                          go_wp2
                          go_meet
                          case rel => exact ⟨_, (true), (by first | rfl | (simp; done) | (simp [*]; done)), H', ⟨by have := HK1.out; have := HJ3.out; have := HK3.out; have := HJ11.out; first | omega | exact Nat.le_refl _⟩, ⟨by (with_reducible repeat (first | apply Kd.R_alloc | apply Kd.R_drewN | apply Kd.R_drew)); exact HO_4.out⟩, ⟨by repeat (first | (with_reducible first | exact HB.out | apply below_alloc | apply pw_below_drewN | apply below_drew1) | exact HB.out)⟩⟩
                        · rw [if_neg c26] at H
                          have c26b0 : decide (x8_3 < 0) = false := decide_eq_false c26
                          clear c26
                          (first | rw [c26b0] | (simp only [i64_w, i32_w]; rw [c26b0]) | skip)
                          have H' := Aside0.mk H
                          clear H
                          obtain ⟨Ao27, co27, eo27⟩ := Kd.R_slice HO_4.out
                          subst eo27
                          go_wp2
                          go_meet
                          case rel => exact ⟨_, (decide ((x4_1.length : Int) ≥ 128)), (by first | rfl | (simp; done) | (simp [*]; done)), H', ⟨by have := HK1.out; have := HJ3.out; have := HK3.out; have := HJ11.out; first | omega | exact Nat.le_refl _⟩, ⟨by (with_reducible repeat (first | apply Kd.R_alloc | apply Kd.R_drewN | apply Kd.R_drew)); exact HO_4.out⟩, ⟨by repeat (first | (with_reducible first | exact HB.out | apply below_alloc | apply pw_below_drewN | apply below_drew1) | exact HB.out)⟩⟩
                       case rest =>
                        clear HC25
                        try clear c1
                        try clear p1
                        try clear q1
                        try clear hx1
                        try clear c2
                        try clear c2b0
                        try clear c2b1
                        try clear p2
                        try clear q2
                        try clear hx2
                        try clear c3
                        try clear c3b0
                        try clear c5
                        try clear c5b0
                        try clear c6
                        try clear c6b0
                        try clear p6
                        try clear p7
                        try clear q7
                        try clear hx7
                        try clear c8
                        try clear c9
                        try clear c9b0
                        try clear c9b1
                        try clear c10
                        try clear c10b0
                        try clear c10b1
                        try clear c11
                        try clear c11b0
                        try clear c11b1
                        try clear c13
                        try clear c13b0
                        try clear c14
                        try clear c16
                        try clear c16b0
                        try clear c17
                        try clear c17b0
                        try clear p18
                        try clear q18
                        try clear hx18
                        try clear c19
                        try clear c19b0
                        try clear c19b1
                        try clear c21
                        try clear c21b0
                        try clear c22
                        try clear c22b0
                        try clear p23
                        try clear q23
                        try clear hx23
                        try clear c24
                        try clear c26
                        try clear c26b0
                        try clear p1
                        try clear p18
                        try clear p2
                        try clear p23
                        try clear p6
                        try clear p7
                        try clear q1
                        try clear q18
                        try clear q2
                        try clear q23
                        try clear q7
                        obtain ⟨kq, x69_24, rfl, HA, HJ24, HO_4, HB⟩ := hcut
                        cases kq with
                        | zero => exact absurd HA.out (by simp [kimberliteref01_Parse.j5])
                        | succ kj24 =>
                         have H := HA.out
                         clear HA
                         simp only [kimberliteref01_Parse.j5] at H
                         by_cases c28 : x69_24 = true
                         · subst c28
                           have H1 : (some (([] : List (S41)), 5)) = some (r1, r2) := by rw [if_pos rfl] at H; exact H
                           clear H
                           have H := H1
                           clear H1
                           simp only [Option.some.injEq, Prod.mk.injEq] at H
                           obtain ⟨rfl, rfl⟩ := H
                           go_wp2
                           go_ret2
                           exact ⟨_, by first | rfl | (simp [errW_none, errW_some] <;> rfl) | (simp [*, errW_none, errW_some] <;> rfl), by first | exact Kd.R_nil _ _ _ _ _ | exact Kd.N_nil _ _ _ _ _ | exact Kd.V_nil _ _ _ _ _ | exact Kd.Q_nil _ _ _ _ _ | exact Kd.S_nil _ _ _ _ _, by repeat (first | (with_reducible first | exact HB.out | apply below_alloc | apply pw_below_drewN | apply below_drew1) | exact HB.out)⟩
                         · replace c28 := Bool.eq_false_iff.mpr c28
                           subst c28
                           have H1 : (if 0 ≤ x8_3 then (if x8_3 ≤ (pc_.size : Int) then ((kimberliteref01_Number.f kj24 (pc_.extract 0 (x8_3 : Int).toNat)).bind fun bt134 => (if 0 ≤ (wrap64 (x8_3 + 2)) then (if (wrap64 (x8_3 + 2)) ≤ (pc_.size : Int) then ((kimberliteref01_Number.f kj24 (pc_.extract ((wrap64 (x8_3 + 2)) : Int).toNat pc_.size)).bind fun bt136 => (if bt134.2 = true then (kimberliteref01_Parse.j6 kj24 a0 x4_1 (wrap64 (x6_1 + 1)) x6_1 bt134.1 bt136.1 (!bt136.2)) else (kimberliteref01_Parse.j6 kj24 a0 x4_1 (wrap64 (x6_1 + 1)) x6_1 bt134.1 bt136.1 true))) else (none)) else (none))) else (none)) else (none)) = some (r1, r2) := by rw [if_neg (show ¬ (false = true) by decide)] at H; exact H
                           clear H
                           have H := H1
                           clear H1
                           by_cases c29 : 0 ≤ x8_3
                           · rw [if_pos c29] at H
                             have c29b0 := eq_true c29
                             have c29b1 : decide (0 ≤ x8_3) = true := decide_eq_true c29
                             clear c29
                             by_cases c30 : x8_3 ≤ (pc_.size : Int)
                             · rw [if_pos c30] at H
                               have c30b0 := eq_true c30
                               have c30b1 : decide (x8_3 ≤ (pc_.size : Int)) = true := decide_eq_true c30
                               clear c30
                               replace H := Option.bind_eq_some_iff.mp H
                               obtain ⟨⟨t134, t135⟩, A310, H⟩ := H
                               replace H : (if 0 ≤ (wrap64 (x8_3 + 2)) then (if (wrap64 (x8_3 + 2)) ≤ (pc_.size : Int) then ((kimberliteref01_Number.f kj24 (pc_.extract ((wrap64 (x8_3 + 2)) : Int).toNat pc_.size)).bind fun bt136 => (if t135 = true then (kimberliteref01_Parse.j6 kj24 a0 x4_1 (wrap64 (x6_1 + 1)) x6_1 t134 bt136.1 (!bt136.2)) else (kimberliteref01_Parse.j6 kj24 a0 x4_1 (wrap64 (x6_1 + 1)) x6_1 t134 bt136.1 true))) else (none)) else (none)) = some (r1, r2) := H
                               have A31 := Aside0.mk A310
                               clear A310
                               obtain ⟨ji32, hji32⟩ : ∃ j_ : Int, (wrap64 (x8_3 + 2)) = j_ := ⟨_, rfl⟩
                               replace H : (if 0 ≤ (ji32) then (if (ji32) ≤ (pc_.size : Int) then ((kimberliteref01_Number.f kj24 (pc_.extract ((ji32) : Int).toNat pc_.size)).bind fun bt136 => (if t135 = true then (kimberliteref01_Parse.j6 kj24 a0 x4_1 (wrap64 (x6_1 + 1)) x6_1 t134 bt136.1 (!bt136.2)) else (kimberliteref01_Parse.j6 kj24 a0 x4_1 (wrap64 (x6_1 + 1)) x6_1 t134 bt136.1 true))) else (none)) else (none)) = some (r1, r2) := by first | (rw [hji32] at H; exact H) | (simp only [hji32] at H ⊢; exact H)
                               (try rw [hji32] at A31)
                               have hji32w : (IntKind.i64.wrap (x8_3 + 2)) = ji32 := (i64_w _).trans hji32
                               by_cases c33 : 0 ≤ (ji32)
                               · rw [if_pos c33] at H
                                 have c33b0 := eq_true c33
                                 have c33b1 : decide (0 ≤ (ji32)) = true := decide_eq_true c33
                                 clear c33
                                 by_cases c34 : (ji32) ≤ (pc_.size : Int)
                                 · rw [if_pos c34] at H
                                   have c34b0 := eq_true c34
                                   have c34b1 : decide ((ji32) ≤ (pc_.size : Int)) = true := decide_eq_true c34
                                   clear c34
                                   replace H := Option.bind_eq_some_iff.mp H
                                   obtain ⟨⟨t136, t137⟩, A350, H⟩ := H
                                   replace H : (if t135 = true then (kimberliteref01_Parse.j6 kj24 a0 x4_1 (wrap64 (x6_1 + 1)) x6_1 t134 t136 (!t137)) else (kimberliteref01_Parse.j6 kj24 a0 x4_1 (wrap64 (x6_1 + 1)) x6_1 t134 t136 true)) = some (r1, r2) := H
                                   have A35 := Aside0.mk A350
                                   clear A350
                                   have HC36 := Aside0.mk H
                                   clear H
                                   go_upto_region 21 with (first | ((with_reducible refine gate_callee (f := 30) rfl ?_); refine goesL_ (some 74) rfl rfl Tryz.func30 (by kernel_rfl) rfl #[.string (pc_.extract 0 (x8_3 : Int).toNat)] rfl (by (try simp only [List.map_toArray, List.map_cons, List.map_nil]); first | done | rfl | (simp only [List.length_drop, List.length_take]; rfl)) ?_; (with_reducible refine (kimberliteref01_Number.calls kj24 (pc_.extract 0 (x8_3 : Int).toNat) t134 t135 _ A31.out).mono ?_); rintro e w' ⟨rfl, ⟨nd, rfl⟩⟩; refine ⟨_, rfl, ?_⟩) | ((with_reducible refine gate_callee (f := 30) rfl ?_); refine goesL_ (some 82) rfl rfl Tryz.func30 (by kernel_rfl) rfl #[.string (pc_.extract ((ji32) : Int).toNat pc_.size)] rfl (by (try simp only [List.map_toArray, List.map_cons, List.map_nil]); first | done | (simp only [hji32]; rfl) | rfl | (simp only [List.length_drop, List.length_take]; rfl)) ?_; (with_reducible refine (kimberliteref01_Number.calls kj24 (pc_.extract ((ji32) : Int).toNat pc_.size) t136 t137 _ A35.out).mono ?_); rintro e w' ⟨rfl, ⟨nd, rfl⟩⟩; refine ⟨_, rfl, ?_⟩))
                                   (try simp only [Act.put, List.setIfInBounds_toArray, List.set_cons_zero, List.set_cons_succ])
                                   go_cut [90] (fun v90 wc => ∃ (kq : Nat) (x90_35 : Bool), v90 = .bool x90_35 ∧ Aside0 (kimberliteref01_Parse.j6 kq a0 x4_1 (wrap64 (x6_1 + 1)) x6_1 t134 t136 x90_35 = some (r1, r2)) ∧ Aside0 (kq ≤ kj24) ∧ Aside0 (Kd.R k41 41 wc w.heap.size (fun _ => True) u4 x4_1) ∧ Aside0 (Below w.heap.size w wc))
                                   case first =>
                                    have H := HC36.out
                                    clear HC36
                                    by_cases c37 : t135 = true
                                    · subst c37
                                      have H1 : (kimberliteref01_Parse.j6 kj24 a0 x4_1 (wrap64 (x6_1 + 1)) x6_1 t134 t136 (!t137)) = some (r1, r2) := by rw [if_pos rfl] at H; exact H
                                      clear H
                                      have H := H1
                                      clear H1
                                      have H' := Aside0.mk H
                                      clear H
                                      go_wp2
                                      go_meet
                                      case rel => exact ⟨_, (!t137), (by first | rfl | (simp; done) | (simp [*]; done)), H', ⟨by have := HK1.out; have := HJ3.out; have := HK3.out; have := HJ11.out; have := HJ24.out; first | omega | exact Nat.le_refl _⟩, ⟨by (with_reducible repeat (first | apply Kd.R_alloc | apply Kd.R_drewN | apply Kd.R_drew)); exact HO_4.out⟩, ⟨by repeat (first | (with_reducible first | exact HB.out | apply below_alloc | apply pw_below_drewN | apply below_drew1) | exact HB.out)⟩⟩
                                    · replace c37 := Bool.eq_false_iff.mpr c37
                                      subst c37
                                      have H1 : (kimberliteref01_Parse.j6 kj24 a0 x4_1 (wrap64 (x6_1 + 1)) x6_1 t134 t136 true) = some (r1, r2) := by rw [if_neg (show ¬ (false = true) by decide)] at H; exact H
                                      clear H
                                      have H := H1
                                      clear H1
                                      have H' := Aside0.mk H
                                      clear H
                                      go_wp2
                                      go_meet
                                      case rel => exact ⟨_, (true), (by first | rfl | (simp; done) | (simp [*]; done)), H', ⟨by have := HK1.out; have := HJ3.out; have := HK3.out; have := HJ11.out; have := HJ24.out; first | omega | exact Nat.le_refl _⟩, ⟨by (with_reducible repeat (first | apply Kd.R_alloc | apply Kd.R_drewN | apply Kd.R_drew)); exact HO_4.out⟩, ⟨by repeat (first | (with_reducible first | exact HB.out | apply below_alloc | apply pw_below_drewN | apply below_drew1) | exact HB.out)⟩⟩
                                   case rest =>
                                    clear HC36
                                    try clear c1
                                    try clear p1
                                    try clear q1
                                    try clear hx1
                                    try clear c2
                                    try clear c2b0
                                    try clear c2b1
                                    try clear p2
                                    try clear q2
                                    try clear hx2
                                    try clear c3
                                    try clear c3b0
                                    try clear c5
                                    try clear c5b0
                                    try clear c6
                                    try clear c6b0
                                    try clear p6
                                    try clear p7
                                    try clear q7
                                    try clear hx7
                                    try clear c8
                                    try clear c9
                                    try clear c9b0
                                    try clear c9b1
                                    try clear c10
                                    try clear c10b0
                                    try clear c10b1
                                    try clear c11
                                    try clear c11b0
                                    try clear c11b1
                                    try clear c13
                                    try clear c13b0
                                    try clear c14
                                    try clear c16
                                    try clear c16b0
                                    try clear c17
                                    try clear c17b0
                                    try clear p18
                                    try clear q18
                                    try clear hx18
                                    try clear c19
                                    try clear c19b0
                                    try clear c19b1
                                    try clear c21
                                    try clear c21b0
                                    try clear c22
                                    try clear c22b0
                                    try clear p23
                                    try clear q23
                                    try clear hx23
                                    try clear c24
                                    try clear c26
                                    try clear c26b0
                                    try clear c28
                                    try clear c29
                                    try clear c29b0
                                    try clear c29b1
                                    try clear c30
                                    try clear c30b0
                                    try clear c30b1
                                    try clear c33
                                    try clear c33b0
                                    try clear c33b1
                                    try clear c34
                                    try clear c34b0
                                    try clear c34b1
                                    try clear c37
                                    try clear p1
                                    try clear p18
                                    try clear p2
                                    try clear p23
                                    try clear p6
                                    try clear p7
                                    try clear q1
                                    try clear q18
                                    try clear q2
                                    try clear q23
                                    try clear q7
                                    obtain ⟨kq, x90_35, rfl, HA, HJ35, HO_4, HB⟩ := hcut
                                    cases kq with
                                    | zero => exact absurd HA.out (by simp [kimberliteref01_Parse.j6])
                                    | succ kj35 =>
                                     have H := HA.out
                                     clear HA
                                     simp only [kimberliteref01_Parse.j6] at H
                                     by_cases c38 : x90_35 = true
                                     · subst c38
                                       have H1 : (some (([] : List (S41)), 5)) = some (r1, r2) := by rw [if_pos rfl] at H; exact H
                                       clear H
                                       have H := H1
                                       clear H1
                                       simp only [Option.some.injEq, Prod.mk.injEq] at H
                                       obtain ⟨rfl, rfl⟩ := H
                                       go_wp2
                                       go_ret2
                                       exact ⟨_, by first | rfl | (simp [errW_none, errW_some] <;> rfl) | (simp only [← hji32]; first | rfl | (simp [errW_none, errW_some] <;> rfl)) | (simp [*, errW_none, errW_some] <;> rfl), by first | exact Kd.R_nil _ _ _ _ _ | exact Kd.N_nil _ _ _ _ _ | exact Kd.V_nil _ _ _ _ _ | exact Kd.Q_nil _ _ _ _ _ | exact Kd.S_nil _ _ _ _ _, by repeat (first | (with_reducible first | exact HB.out | apply below_alloc | apply pw_below_drewN | apply below_drew1) | exact HB.out)⟩
                                     · replace c38 := Bool.eq_false_iff.mpr c38
                                       subst c38
                                       have H1 : (if x4_1.length < 8796093022208 then (kimberliteref01_Parse.l0 kj35 a0 (x4_1 ++ [(⟨t134, t136⟩ : S41)]) (wrap64 (x6_1 + 1)) (wrap64 (x6_1 + 1))) else (none)) = some (r1, r2) := by rw [if_neg (show ¬ (false = true) by decide)] at H; exact H
                                       clear H
                                       have H := H1
                                       clear H1
                                       by_cases c39 : x4_1.length < 8796093022208
                                       · rw [if_pos c39] at H
                                         have LMc39 := Aside0.mk c39
                                         clear c39
                                         obtain ⟨y138, hy138⟩ : ∃ y_ : List (S41), y_ = (x4_1 ++ [(⟨t134, t136⟩ : S41)]) := ⟨_, rfl⟩
                                         replace H : (kimberliteref01_Parse.l0 kj35 a0 y138 (wrap64 (x6_1 + 1)) (wrap64 (x6_1 + 1))) = some (r1, r2) := by first | (rw [hy138]; with_reducible exact H) | (have H2_ := (Option.bind_some _ _).symm.trans H; rw [hy138]; with_reducible exact H2_) | (have H2_ := (Option.bind_some _ _).symm.trans H; with_reducible exact H2_) | with_reducible exact H | (rw [hy138]; exact H) | exact H
                                         have Ny138 := Aside0.mk hy138
                                         clear hy138
                                         have H' := Aside0.mk H
                                         clear H
                                         go_wp2_with (first | ((with_reducible refine gate_builtin (b := .append) (xs := #[.tmp 91, .tmp 95]) rfl ?_); (try (refine gate_guard (by rfl) ?_; dsimp only)); at_builtin; refine Kd.R_append k41 (w0 := w) w.heap.size rfl (.tmp 91) (.tmp 95) 22 41 (.agg #[(.int .i64 0), (.int .i64 0)]) 16 rfl Tryz.underlying22 info41 rfl (by decide) (by omega) u4 x4_1 (⟨t134, t136⟩ : S41) [.int .i64 t134, .int .i64 t136] (fun _ => True) (fun _ => False) rfl rfl ?aP (fun _ hk => hk.elim) ?aF ?aO ?aB ?aS ?aL ?_; (case aP => exact k41_mkM _ _ _ (⟨t134, t136⟩ : S41)); (case aB => exact (by repeat (first | (with_reducible first | exact HB.out | apply below_alloc | apply pw_below_drewN | apply below_drew1) | exact HB.out))); (case aF => exact (fun _ _ => trivial)); (case aO => exact (by (with_reducible repeat (first | apply Kd.R_alloc | apply Kd.R_drewN | apply Kd.R_drew)); exact HO_4.out)); (case aS => exact (below_size (by repeat (first | (with_reducible first | exact HB.out | apply below_alloc | apply pw_below_drewN | apply below_drew1) | exact HB.out)))); (case aL => have := LMc39.out; omega); intro v139 w40 ho hb hg hat; rw [← Ny138.out] at ho; have n0_ := Aside0.mk (hb); have n1_ := Aside0.mk (ho); clear HB; clear HO_4; have HB := n0_; have HO140 := n1_; clear n0_ n1_; clear ho hb hg hat))
                                         go_roundg kj35
                                         case measure => have := HK1.out; have := HJ3.out; have := HK3.out; have := HJ11.out; have := HJ24.out; have := HJ35.out; omega
                                         case rel => exact ⟨(y138), ((wrap64 (x6_1 + 1))), (wrap64 (x6_1 + 1)), (by first | rfl | (simp; done) | (simp [*]; done)), (by first | rfl | (simp; done) | (simp [*]; done)), H', ⟨by have := HK1.out; have := HJ3.out; have := HK3.out; have := HJ11.out; have := HJ24.out; have := HJ35.out; omega⟩, ⟨by (with_reducible repeat (first | apply Kd.R_alloc | apply Kd.R_drewN | apply Kd.R_drew)); exact HO140.out⟩, ⟨by repeat (first | (with_reducible first | exact HB.out | apply below_alloc | apply pw_below_drewN | apply below_drew1) | exact HB.out)⟩⟩
                                       · rw [if_neg c39] at H
                                         exact absurd H (by simp)
                                 · rw [if_neg c34] at H
                                   exact absurd H (by simp)
                               · rw [if_neg c33] at H
                                 exact absurd H (by simp)
                             · rw [if_neg c30] at H
                               exact absurd H (by simp)
                           · rw [if_neg c29] at H
                             exact absurd H (by simp)
               · rw [if_neg c11] at H
                 exact absurd H (by simp)
             · rw [if_neg c10] at H
               exact absurd H (by simp)
           · rw [if_neg c9] at H
             exact absurd H (by simp)
     · rw [if_neg c3] at H
       have c3b0 : decide (x6_1 ≤ (a0.size : Int)) = false := decide_eq_false c3
       clear c3
       replace H := Option.bind_eq_some_iff.mp H
       obtain ⟨⟨t141, t142⟩, A410, H⟩ := H
       replace H : (if t142 = 0 then (kimberliteref01_Parse.j7 k1 x4_1 (t141.toList != a0.toList)) else (kimberliteref01_Parse.j7 k1 x4_1 true)) = some (r1, r2) := H
       have A41 := Aside0.mk A410
       clear A410
       have HC42 := Aside0.mk H
       clear H
       obtain ⟨Ao43, co43, eo43⟩ := Kd.R_slice HO_4.out
       subst eo43
       go_upto_region 25 with (first | ((with_reducible refine gate_callee (f := 8) rfl ?_); refine goesL_ (some 99) rfl rfl Tryz.func8 (by kernel_rfl) rfl #[.slice Ao43 x4_1.length co43] rfl (by (try simp only [List.map_toArray, List.map_cons, List.map_nil]); first | done | rfl | (simp only [List.length_drop, List.length_take]; rfl)) ?_; (with_reducible refine (kimberliteref01_Text.calls k1 _ _ x4_1 t141 t142 _ ?side1 ?side2 A41.out).mono ?_); (case side1 => repeat (first | exact (Kd.R_reads' HO_4.out).2.2 | (with_reducible refine Kd.C_alloc ?_ _) | (with_reducible refine Kd.C_drewN ?_ _) | (with_reducible refine Kd.C_drew ?_))); (case side2 => exact (Kd.R_reads' HO_4.out).2.1); rintro e w44 ⟨rfl, hb⟩; refine ⟨_, rfl, ?_⟩; have n0_ := Aside0.mk (Kd.R_below (by (with_reducible repeat (first | apply Kd.R_alloc | apply Kd.R_drewN | apply Kd.R_drew)); exact HO_4.out) hb); have n1_ := Aside0.mk (below_step (by repeat (first | (with_reducible first | exact HB.out | apply below_alloc | apply pw_below_drewN | apply below_drew1) | exact HB.out)) hb); clear HO_4; clear HB; have HO_4 := n0_; have HB := n1_; clear n0_ n1_; (try clear hb); (try clear hb2); (try clear hk); (try clear hi)))
       (try simp only [Act.put, List.setIfInBounds_toArray, List.set_cons_zero, List.set_cons_succ])
       go_cut [108] (fun v108 wc => ∃ (kq : Nat) (x108_41 : Bool), v108 = .bool x108_41 ∧ Aside0 (kimberliteref01_Parse.j7 kq x4_1 x108_41 = some (r1, r2)) ∧ Aside0 (kq ≤ k1) ∧ Aside0 (Kd.R k41 41 wc w.heap.size (fun _ => True) (.slice Ao43 x4_1.length co43) x4_1) ∧ Aside0 (Below w.heap.size w wc))
       case first =>
        have H := HC42.out
        clear HC42
        by_cases c45 : t142 = 0
        · rw [if_pos c45] at H
          have c45b0 : (t142 == 0) = true := beq_iff_eq.mpr c45
          have c45b1 : (t142 != 0) = false := bne_eq_false_iff_eq.mpr c45
          clear c45
          (first | rw [c45b0] | (simp only [i64_w, i32_w]; rw [c45b0]) | skip)
          have H' := Aside0.mk H
          clear H
          go_wp2
          go_meet
          case rel => exact ⟨_, ((t141.toList != a0.toList)), (by first | rfl | (simp; done) | (simp [*]; done)), H', ⟨by have := HK1.out; first | omega | exact Nat.le_refl _⟩, ⟨by (with_reducible repeat (first | apply Kd.R_alloc | apply Kd.R_drewN | apply Kd.R_drew)); exact HO_4.out⟩, ⟨by repeat (first | (with_reducible first | exact HB.out | apply below_alloc | apply pw_below_drewN | apply below_drew1) | exact HB.out)⟩⟩
        · rw [if_neg c45] at H
          have c45b0 : (t142 == 0) = false := beq_eq_false_iff_ne.mpr c45
          have c45b1 : (t142 != 0) = true := bne_iff_ne.mpr c45
          (first | rw [c45b0] | (simp only [i64_w, i32_w]; rw [c45b0]) | skip)
          have H' := Aside0.mk H
          clear H
          go_wp2
          go_meet
          case rel => exact ⟨_, (true), (by first | rfl | (simp; done) | (simp [*]; done)), H', ⟨by have := HK1.out; first | omega | exact Nat.le_refl _⟩, ⟨by (with_reducible repeat (first | apply Kd.R_alloc | apply Kd.R_drewN | apply Kd.R_drew)); exact HO_4.out⟩, ⟨by repeat (first | (with_reducible first | exact HB.out | apply below_alloc | apply pw_below_drewN | apply below_drew1) | exact HB.out)⟩⟩
       case rest =>
        clear HC42
        try clear c1
        try clear p1
        try clear q1
        try clear hx1
        try clear c2
        try clear c2b0
        try clear c2b1
        try clear p2
        try clear q2
        try clear hx2
        try clear c3
        try clear c3b0
        try clear c4
        try clear c5
        try clear c5b0
        try clear c6
        try clear c6b0
        try clear p6
        try clear p7
        try clear q7
        try clear hx7
        try clear c8
        try clear c9
        try clear c9b0
        try clear c9b1
        try clear c10
        try clear c10b0
        try clear c10b1
        try clear c11
        try clear c11b0
        try clear c11b1
        try clear c13
        try clear c13b0
        try clear c14
        try clear c16
        try clear c16b0
        try clear c17
        try clear c17b0
        try clear p18
        try clear q18
        try clear hx18
        try clear c19
        try clear c19b0
        try clear c19b1
        try clear c21
        try clear c21b0
        try clear c22
        try clear c22b0
        try clear p23
        try clear q23
        try clear hx23
        try clear c24
        try clear c26
        try clear c26b0
        try clear c28
        try clear c29
        try clear c29b0
        try clear c29b1
        try clear c30
        try clear c30b0
        try clear c30b1
        try clear c33
        try clear c33b0
        try clear c33b1
        try clear c34
        try clear c34b0
        try clear c34b1
        try clear c37
        try clear c38
        try clear c39
        try clear c45
        try clear c45b0
        try clear c45b1
        try clear p1
        try clear p18
        try clear p2
        try clear p23
        try clear p6
        try clear p7
        try clear q1
        try clear q18
        try clear q2
        try clear q23
        try clear q7
        obtain ⟨kq, x108_41, rfl, HA, HJ41, HO_4, HB⟩ := hcut
        cases kq with
        | zero => exact absurd HA.out (by simp [kimberliteref01_Parse.j7])
        | succ kj41 =>
         have H := HA.out
         clear HA
         simp only [kimberliteref01_Parse.j7] at H
         by_cases c46 : x108_41 = true
         · subst c46
           have H1 : (some (([] : List (S41)), 5)) = some (r1, r2) := by rw [if_pos rfl] at H; exact H
           clear H
           have H := H1
           clear H1
           simp only [Option.some.injEq, Prod.mk.injEq] at H
           obtain ⟨rfl, rfl⟩ := H
           go_wp2
           go_ret2
           exact ⟨_, by first | rfl | (simp [errW_none, errW_some] <;> rfl) | (simp [*, errW_none, errW_some] <;> rfl), by first | exact Kd.R_nil _ _ _ _ _ | exact Kd.N_nil _ _ _ _ _ | exact Kd.V_nil _ _ _ _ _ | exact Kd.Q_nil _ _ _ _ _ | exact Kd.S_nil _ _ _ _ _, by repeat (first | (with_reducible first | exact HB.out | apply below_alloc | apply pw_below_drewN | apply below_drew1) | exact HB.out)⟩
         · replace c46 := Bool.eq_false_iff.mpr c46
           subst c46
           have H1 : (some (x4_1, 0)) = some (r1, r2) := by rw [if_neg (show ¬ (false = true) by decide)] at H; exact H
           clear H
           have H := H1
           clear H1
           simp only [Option.some.injEq, Prod.mk.injEq] at H
           obtain ⟨rfl, rfl⟩ := H
           go_wp2
           go_ret2
           exact ⟨_, by first | rfl | (simp [errW_none, errW_some] <;> rfl) | (simp [*, errW_none, errW_some] <;> rfl), by (with_reducible repeat (first | apply Kd.R_alloc | apply Kd.R_drewN | apply Kd.R_drew)); exact HO_4.out, by repeat (first | (with_reducible first | exact HB.out | apply below_alloc | apply pw_below_drewN | apply below_drew1) | exact HB.out)⟩
end Go.Proofs.YtmomcbhgggggnaaGreatDoor.Pr
end
section
namespace Go.Proofs.YtmomcbhgggggnaaGreatDoor.Pr
open Go.RowKit Go.Proofs.YtmomcbhgggggnaaGreatDoorW.PrintWords Go.Proofs.YtmomcbhgggggnaaGreatDoorW.PrintLast Go.Proofs.YtmomcbhgggggnaaGreatDoorW.PrintMore
attribute [local go_sem] max2_int min2_int max_two min_two max_three min_three max_four min_four   -- for this text's walks alone
set_option linter.unusedVariables false
set_option linter.unusedSimpArgs false
def kimberlitelaw01_few.f (l0 : List (S41)) : Option (Bool) := some (decide ((l0.length : Int) ≤ 140))
set_option maxHeartbeats 8000000 in
set_option maxRecDepth 100000 in
theorem kimberlitelaw01_few.calls (A0 : Option Addr) (c0 : Nat) (l0 : List (S41)) (r : Bool) (w : World) (hr0 : Kd.C k41 w A0 l0.length l0) (hc0 : l0.length ≤ c0) (h : kimberlitelaw01_few.f l0 = some r) :
 Calls Tryz.prog 5 #[.slice A0 l0.length c0] w fun e w' => e = .returned (.bool r) ∧ Drawn0 w w' := by
 have HR0 := Aside0.mk hr0
 have HC0 := Aside0.mk hc0
 clear hr0 hc0
 have H : (some (decide ((l0.length : Int) ≤ 140))) = some r := h
 clear h
 obtain rfl := Option.some.inj H
 go_enter Tryz.func5, Tryz.ntmps5
 go_wp2
 go_ret
 exact ⟨by first | rfl | (simp; done) | (simp [*]; done), by repeat (first | exact Drawn0.refl _ | apply Drawn0.step)⟩
end Go.Proofs.YtmomcbhgggggnaaGreatDoor.Pr
end
section
namespace Go.Proofs.YtmomcbhgggggnaaGreatDoor.Pr
open Go.RowKit Go.Shelf Go.Proofs.YtmomcbhgggggnaaGreatDoorW.PrintWords Go.Proofs.YtmomcbhgggggnaaGreatDoorW.PrintLast Go.Proofs.YtmomcbhgggggnaaGreatDoorW.PrintMore
set_option linter.unusedVariables false
set_option linter.unusedSimpArgs false
set_option maxHeartbeats 4000000 in
set_option maxRecDepth 100000 in
theorem texts_calls (A0 : Option Addr) (c0 : Nat) (l0 : List S41) (s : ByteArray) (w : World) (HLD : Aside0 (LaidAt w)) (hr0 : Kd.C k41 w A0 l0.length l0) (hc0 : l0.length ≤ c0)
    (t : ByteArray) (n : Int) (x : List S41) (g : Int) (ht : ∃ k, span_Text.f k l0 = some (t, n)) (hu : ∃ k, kimberliteref01_Text.f k l0 = some (t, n)) (hp : s.size ≤ 6000 → ∃ k, span_Parse.f k s = some (x, g)) (hq : s.size ≤ 6000 → ∃ k, kimberliteref01_Parse.f k s = some (x, g)) (hsm : s.size ≤ 6000 → ∃ k, kimberlitelaw01_same.f k x x = some true) :
    Calls Tryz.prog 3 #[.slice A0 l0.length c0, .string s] w fun e w' => e = .returned (.bool true) ∧ Below w.heap.size w w' := by
  obtain ⟨k1, ht⟩ := ht
  obtain ⟨k2, hu⟩ := hu
  have HT := Aside0.mk ht
  have HU := Aside0.mk hu
  have HR := Aside0.mk hr0
  have HC := Aside0.mk hc0
  have HAL := Aside0.mk alive_now
  have hu41 := Tryz.underlying41
  have HB := Aside0.mk (Below.refl w.heap.size w)
  have e1 : (t.toList == t.toList) = true := beq_iff_eq.mpr rfl
  have e2 : (t.toList != t.toList) = false := bne_eq_false_iff_eq.mpr rfl
  have e3 : (n == n) = true := beq_iff_eq.mpr rfl
  have e4 : (g == g) = true := beq_iff_eq.mpr rfl
  clear ht hu hr0 hc0
  by_cases hf : (l0.length : Int) ≤ 140
  · have HF := Aside0.mk (show kimberlitelaw01_few.f l0 = some true by unfold kimberlitelaw01_few.f; rw [decide_eq_true hf])
    clear hf
    by_cases h6 : s.size ≤ 6000
    · obtain ⟨k3, hp⟩ := hp h6
      obtain ⟨k4, hq⟩ := hq h6
      obtain ⟨k5, hsm⟩ := hsm h6
      have HP := Aside0.mk hp
      have HQ := Aside0.mk hq
      have HSM := Aside0.mk hsm
      have HS := Aside0.mk (show s.size < 4294967281 by omega)
      have s0 : decide ((6000 : Int) < (s.size : Int)) = false := decide_eq_false (by omega)
      have s1 : decide (6000 < s.size) = false := decide_eq_false (by omega)
      clear hp hq hsm h6
      go_enter Tryz.func3, Tryz.ntmps3
      go_wp2_with (first
        | (go_at_call 5; (with_reducible refine (kimberlitelaw01_few.calls _ _ l0 true _ HR.out HC.out HF.out).mono ?_); rintro e w1 ⟨rfl, hd⟩; have HB1 := Aside0.mk hd.below; clear hd)
        | (go_at_call 7; (with_reducible refine (span_Text.calls k1 _ _ l0 t n _ ⟨HLD.out.below HB1.out⟩ (Kd.C_below HR.out HB1.out) HC.out HT.out).mono ?_); rintro e w2 ⟨rfl, hb⟩; have HB2 := Aside0.mk (below_step HB1.out hb); clear hb)
        | (go_at_call 8; (with_reducible refine (kimberliteref01_Text.calls k2 _ _ l0 t n _ (Kd.C_below HR.out HB2.out) HC.out HU.out).mono ?_); rintro e w3 ⟨rfl, hb⟩; have HB3 := Aside0.mk (below_step HB2.out hb); clear hb)
        | (go_at_call 9; (with_reducible refine (span_Parse.calls k3 s x g _ ⟨HLD.out.below HB3.out⟩ HS.out HP.out).mono ?_); rintro e w4 ⟨v4, rfl, hr4, hb⟩; have HB4 := Aside0.mk (below_step HB3.out hb); obtain ⟨A4, c4, e4⟩ := Kd.R_slice hr4; subst e4; have R4 := Aside0.mk hr4; clear hb hr4)
        | (go_at_call 10; (with_reducible refine (kimberliteref01_Parse.calls k4 s x g _ HQ.out).mono ?_); rintro e w5 ⟨v5, rfl, hr5, hb⟩; have HB5 := Aside0.mk (below_step HB4.out hb); have R45 := Aside0.mk (Kd.R_below R4.out hb); obtain ⟨A5, c5, e5⟩ := Kd.R_slice hr5; subst e5; have R5 := Aside0.mk hr5; clear hb hr5)
        | (go_at_call 11; (with_reducible refine (kimberlitelaw01_same.calls k5 _ _ x _ _ x true _ (Kd.R_reads' R45.out).2.2 (Kd.R_reads' R45.out).2.1 (Kd.R_reads' R5.out).2.2 (Kd.R_reads' R5.out).2.1 HSM.out).mono ?_); rintro e w6 ⟨rfl, hd⟩; have HB6 := Aside0.mk (below_step HB5.out hd.below); clear hd)
        | (go_at_call 6; (with_reducible refine (kimberlitelaw01_alive.calls 40 true _ HAL.out).mono ?_); rintro e w7 ⟨rfl, hb⟩; have HB7 := Aside0.mk (below_step HB6.out hb); clear hb))
      go_ret
      exact ⟨rfl, HB7.out⟩
    · have s0 : decide ((6000 : Int) < (s.size : Int)) = true := decide_eq_true (by omega)
      have s1 : decide (6000 < s.size) = true := decide_eq_true (by omega)
      clear hp hq hsm h6
      go_enter Tryz.func3, Tryz.ntmps3
      go_wp2_with (first
        | (go_at_call 5; (with_reducible refine (kimberlitelaw01_few.calls _ _ l0 true _ HR.out HC.out HF.out).mono ?_); rintro e w1 ⟨rfl, hd⟩; have HB1 := Aside0.mk hd.below; clear hd)
        | (go_at_call 6; (with_reducible refine (kimberlitelaw01_alive.calls 40 true _ HAL.out).mono ?_); rintro e w7 ⟨rfl, hb⟩; have HB7 := Aside0.mk (below_step HB1.out hb); clear hb))
      go_ret
      exact ⟨rfl, HB7.out⟩
  · have HF := Aside0.mk (show kimberlitelaw01_few.f l0 = some false by unfold kimberlitelaw01_few.f; rw [decide_eq_false hf])
    clear hf hp hq hsm
    go_enter Tryz.func3, Tryz.ntmps3
    go_wp2_with (first
      | (go_at_call 5; (with_reducible refine (kimberlitelaw01_few.calls _ _ l0 false _ HR.out HC.out HF.out).mono ?_); rintro e w1 ⟨rfl, hd⟩; have HB1 := Aside0.mk hd.below; clear hd)
      | (go_at_call 6; (with_reducible refine (kimberlitelaw01_alive.calls 40 true _ HAL.out).mono ?_); rintro e w7 ⟨rfl, hb⟩; have HB7 := Aside0.mk (below_step HB1.out hb); clear hb))
    go_ret
    exact ⟨rfl, HB7.out⟩
end Go.Proofs.YtmomcbhgggggnaaGreatDoor.Pr
end
section
namespace Go.Proofs.YtmomcbhgggggnaaGreatDoor.Pr
open Go.Lib
set_option linter.unusedVariables false
set_option linter.unusedSimpArgs false
theorem dig_nat (d : Nat) (h : d < 10) : (UInt8.ofNat (48 + d)).toNat = 48 + d := by
  rw [UInt8.toNat_ofNat']
  exact Nat.mod_eq_of_lt (by omega)
theorem dec_bytes (u : Nat) : ∀ b ∈ decDigits u, 48 ≤ b.toNat ∧ b.toNat ≤ 57 := by
  induction u using Nat.strongRecOn with
  | _ u ih =>
    intro b hb
    rw [decDigits] at hb
    by_cases h : u < 10
    · rw [dif_pos h, List.mem_singleton] at hb
      subst hb
      rw [dig_nat u h]
      omega
    · rw [dif_neg h, List.mem_append, List.mem_singleton] at hb
      rcases hb with hb | rfl
      · exact ih (u / 10) (by omega) b hb
      · rw [dig_nat (u % 10) (by omega)]
        omega
theorem dec_ne (u : Nat) : decDigits u ≠ [] := by
  rw [decDigits]
  by_cases h : u < 10
  · rw [dif_pos h]; simp
  · rw [dif_neg h]; simp
theorem parse_append (m : List UInt8) : ∀ (l : List UInt8) (acc : Nat), parseUint10 acc (l ++ m) = match parseUint10 acc l with | .ok v => parseUint10 v m | x => x
  | [], acc => rfl
  | c :: r, acc => by
    have ih := parse_append m r
    rw [List.cons_append]
    simp only [parseUint10]
    split
    · split
      · rfl
      · split
        · rfl
        · exact ih _
    · rfl
theorem parse_dec (u : Nat) (hu : u < 18446744073709551616) : parseUint10 0 (decDigits u) = .ok u := by
  induction u using Nat.strongRecOn with
  | _ u ih =>
    rw [decDigits]
    by_cases h : u < 10
    · rw [dif_pos h]
      simp only [parseUint10]
      rw [dig_nat u h, if_pos (by omega), if_neg (by omega), if_neg (by omega)]
      congr 1
      omega
    · rw [dif_neg h, parse_append, ih (u / 10) (by omega) (by omega)]
      simp only [parseUint10]
      rw [dig_nat (u % 10) (by omega), if_pos (by omega), if_neg (by omega), if_neg (by omega)]
      congr 1
      omega
theorem atoi_itoa (n : Int) (h0 : -9223372036854775808 ≤ n) (h1 : n ≤ 9223372036854775807) : atoiAll (itoa n) = .ok n := by
  unfold itoa
  by_cases h : n < 0
  · rw [if_pos h]
    have hp : parseMag (decDigits n.natAbs) = .ok n.natAbs := by
      unfold parseMag
      rw [if_neg (dec_ne _)]
      exact parse_dec _ (by omega)
    have e : (45 : UInt8).toNat = 45 := rfl
    simp only [atoiAll, e]
    rw [if_pos (Or.inr trivial), hp]
    simp only
    rw [if_neg (by simp), if_neg (by omega), if_pos trivial]
    congr 1
    omega
  · rw [if_neg h]
    have hp : parseMag (decDigits n.toNat) = .ok n.toNat := by
      unfold parseMag
      rw [if_neg (dec_ne _)]
      exact parse_dec _ (by omega)
    have hb := dec_bytes n.toNat
    cases hd : decDigits n.toNat with
    | nil => exact absurd hd (dec_ne _)
    | cons c r =>
      have hc := hb c (by rw [hd]; exact List.mem_cons_self)
      rw [hd] at hp
      simp only [atoiAll]
      rw [if_neg (by omega), hp]
      simp only
      rw [if_neg (by omega), if_neg (by omega), if_neg (by omega)]
      congr 1
      omega
theorem itoa_no (n : Int) : ∀ b ∈ itoa n, b ≠ 32 ∧ b ≠ 46 := by
  intro b hb
  unfold itoa at hb
  have hd : ∀ u, b ∈ decDigits u → b ≠ 32 ∧ b ≠ 46 := fun u hu => by
    have := dec_bytes u b hu
    constructor
    · rintro rfl
      simp at this
    · rintro rfl
      simp at this
  split at hb
  · rcases List.mem_cons.1 hb with rfl | hb
    · exact ⟨by decide, by decide⟩
    · exact hd _ hb
  · exact hd _ hb
theorem index_miss (c : UInt8) : ∀ w : List UInt8, (∀ b ∈ w, b ≠ c) → index w [c] = -1
  | [], _ => rfl
  | b :: l, h => by
    have ih := index_miss c l fun x hx => h x (List.mem_cons_of_mem _ hx)
    have hb := h b List.mem_cons_self
    have e : [c].isPrefixOf (b :: l) = false := by
      simp [List.isPrefixOf]
      exact fun e => hb e.symm
    unfold index
    rw [e, ih]
    rfl
theorem index_hit (c : UInt8) (r : List UInt8) : ∀ w : List UInt8, (∀ b ∈ w, b ≠ c) → index (w ++ c :: r) [c] = (w.length : Int)
  | [], _ => by
    rw [List.nil_append]
    unfold index
    rw [if_pos (by simp [List.isPrefixOf])]
    rfl
  | b :: l, h => by
    have ih := index_hit c r l fun x hx => h x (List.mem_cons_of_mem _ hx)
    have hb := h b List.mem_cons_self
    have e : [c].isPrefixOf (b :: (l ++ c :: r)) = false := by
      simp [List.isPrefixOf]
      exact fun e => hb e.symm
    rw [List.cons_append]
    unfold index
    rw [e, ih, if_neg (by simp), if_neg (by rw [beq_iff_eq]; omega), List.length_cons]
    omega
theorem index_two (c : UInt8) (r : List UInt8) : ∀ w : List UInt8, (∀ b ∈ w, b ≠ c) → index (w ++ c :: c :: r) [c, c] = (w.length : Int)
  | [], _ => by
    rw [List.nil_append]
    unfold index
    rw [if_pos (by simp [List.isPrefixOf])]
    rfl
  | b :: l, h => by
    have ih := index_two c r l fun x hx => h x (List.mem_cons_of_mem _ hx)
    have hb := h b List.mem_cons_self
    have e : [c, c].isPrefixOf (b :: (l ++ c :: c :: r)) = false := by
      simp [List.isPrefixOf]
      exact fun e => absurd e.symm hb
    rw [List.cons_append]
    unfold index
    rw [e, ih, if_neg (by simp), if_neg (by rw [beq_iff_eq]; omega), List.length_cons]
    omega
theorem cut_two (x y : List UInt8) (h : ∀ b ∈ x, b ≠ 46) : cut (x ++ 46 :: 46 :: y) [46, 46] = (x, y, true) := by
  have e := index_two 46 y x h
  unfold cut
  rw [e, if_pos (by omega), Int.toNat_natCast, List.take_left' rfl]
  have ed : (x ++ 46 :: 46 :: y).drop (x.length + 2) = y := by
    rw [List.drop_append]
    simp
  exact congrArg (fun z => (x, z, true)) ed
theorem join_two (w v : List UInt8) (t : List (List UInt8)) (sep : List UInt8) : join (w :: v :: t) sep = w ++ (sep ++ join (v :: t) sep) := by
  rw [join_cons, join_cons]
  unfold joinTail
  rw [List.map_cons, List.flatten_cons, List.append_assoc]
/-- Words without blanks, joined by blanks, are split again. -/
theorem split_join : ∀ ws : List (List UInt8), ws ≠ [] → (∀ w ∈ ws, ∀ b ∈ w, b ≠ 32) → split (join ws [32]) [32] = ws
  | [], h, _ => absurd rfl h
  | [w], _, h => by
    have e := index_miss 32 w (h w List.mem_cons_self)
    rw [join_one]
    unfold split
    rw [count_miss e]
    rfl
  | w :: v :: t, _, h => by
    have ih := split_join (v :: t) (by simp) fun x hx => h x (List.mem_cons_of_mem _ hx)
    have e := index_hit 32 (join (v :: t) [32]) w (h w List.mem_cons_self)
    have ed : (w ++ 32 :: join (v :: t) [32]).drop (w.length + [(32 : UInt8)].length) = join (v :: t) [32] := by
      rw [List.drop_append]
      simp
    rw [join_two, List.cons_append, List.nil_append]
    unfold split at ih ⊢
    rw [count_hit (by simp) e, ed, Nat.add_comm]
    unfold splitK
    rw [if_neg (by rw [e, beq_iff_eq]; omega), e, Int.toNat_natCast, ed, ih, Nat.add_zero, List.take_left' rfl]
end Go.Proofs.YtmomcbhgggggnaaGreatDoor.Pr
end
section
namespace Go.Proofs.YtmomcbhgggggnaaGreatDoor.Pr
open Go.RowKit Go.Lib Go.Proofs.YtmomcbhgggggnaaGreatDoorW.PrintWords Go.Proofs.YtmomcbhgggggnaaGreatDoorW.PrintLast Go.Proofs.YtmomcbhgggggnaaGreatDoorW.PrintMore
set_option linter.unusedVariables false
set_option linter.unusedSimpArgs false
/-- A string of its bytes. -/
def bts (l : List UInt8) : ByteArray := ⟨l.toArray⟩
theorem bts_list (l : List UInt8) : (bts l).toList = l := by rw [toList_data]; rfl
theorem bts_size (l : List UInt8) : (bts l).size = l.length := rfl
theorem bts_app (a b : List UInt8) : bts a ++ bts b = bts (a ++ b) := by
  apply ByteArray.ext
  rw [ByteArray.data_append]
  unfold bts
  simp
theorem bts_of (s : ByteArray) : bts s.toList = s := by
  rw [toList_data]
  rfl
theorem dig_ext (d : Nat) (h : d < 10) : (⟨#[48, 49, 50, 51, 52, 53, 54, 55, 56, 57]⟩ : ByteArray).extract d (d + 1) = bts [UInt8.ofNat (48 + d)] := by
  rcases d with _ | _ | _ | _ | _ | _ | _ | _ | _ | _ | d
  all_goals first | rfl | (exfalso; omega)
def sg (neg : Bool) (l : List UInt8) : List UInt8 := if neg = true then 45 :: l else l
theorem dig_end (neg : Bool) (out : List UInt8) (ho : out ≠ []) (hl : out.length ≤ 4611686018427387904) : Ev (fun k => kimberliteref01_Digits.l0 k 0 (bts out) neg) (bts (sg neg out)) := by
  have he : ((bts out).toList == ([] : List UInt8)) = false := by rw [bts_list]; exact beq_eq_false_iff_ne.2 ho
  refine Ev.step (f := fun k => kimberliteref01_Digits.j1 k 0 (bts out) neg false) (fun k => ?_) (Ev.step (f := fun _ => some (bts (sg neg out))) (fun k => ?_) (Ev.now _))
  · simp only [kimberliteref01_Digits.l0]
    rw [if_pos trivial, he]
  · simp only [kimberliteref01_Digits.j1]
    rw [if_neg (by simp)]
    cases neg with
    | true =>
      rw [if_pos rfl, if_pos (by rw [bts_size]; omega)]
      exact congrArg some (bts_app [45] out)
    | false =>
      rw [if_neg (by simp)]
      rfl
theorem dig_step {R : ByteArray} (neg : Bool) (x y : Int) (d : Nat) (out : List UInt8) (hd : d < 10) (hr : Int.tmod x 10 = (d : Int) ∨ Int.tmod x 10 = -(d : Int)) (hy : wrap64 (Int.tdiv x 10) = y) (hx : x ≠ 0 ∨ out = []) (hl : out.length ≤ 4611686018427387904)
    (hK : Ev (fun k => kimberliteref01_Digits.l0 k y (bts (UInt8.ofNat (48 + d) :: out)) neg) R) : Ev (fun k => kimberliteref01_Digits.l0 k x (bts out) neg) R := by
  have hj : Ev (fun k => kimberliteref01_Digits.j1 k x (bts out) neg true) R := by
    refine Ev.step (fun k => ?_) hK
    simp only [kimberliteref01_Digits.j1]
    rw [if_pos trivial]
    have e1 : wrap64 ((d : Int) + 1) = ((d + 1 : Nat) : Int) := by unfold wrap64; omega
    have e2 : bts [UInt8.ofNat (48 + d)] ++ bts out = bts (UInt8.ofNat (48 + d) :: out) := bts_app _ _
    by_cases hn : Int.tmod x 10 < 0
    · have e3 : wrap64 (-(Int.tmod x 10)) = (d : Int) := by unfold wrap64; omega
      rw [if_pos hn, e3, e1, if_pos (by omega), if_pos (by omega), if_pos (by omega), Int.toNat_natCast, Int.toNat_natCast, dig_ext d hd, if_pos (by rw [bts_size, bts_size]; simp; omega), hy, e2]
    · have e3 : Int.tmod x 10 = (d : Int) := by omega
      rw [if_neg hn, e3, e1, if_pos (by omega), if_pos (by omega), if_pos (by omega), Int.toNat_natCast, Int.toNat_natCast, dig_ext d hd, if_pos (by rw [bts_size, bts_size]; simp; omega), hy, e2]
  refine Ev.step (fun k => ?_) hj
  simp only [kimberliteref01_Digits.l0]
  by_cases h0 : x = 0
  · have ho : out = [] := hx.resolve_left (fun h => h h0)
    subst ho
    rw [if_pos h0, bts_list]
    rfl
  · rw [if_neg h0]
theorem dig_loop (neg : Bool) (s : Bool) (m : Nat) : ∀ out : List UInt8, m ≠ 0 → out.length + m ≤ 4611686018427387904 → Ev (fun k => kimberliteref01_Digits.l0 k (if s = true then -(m : Int) else (m : Int)) (bts out) neg) (bts (sg neg (decDigits m ++ out))) := by
  induction m using Nat.strongRecOn with
  | _ m ih =>
    intro out hm hl
    have t1 : Int.tmod (m : Int) 10 = ((m % 10 : Nat) : Int) := rfl
    have t2 : Int.tdiv (m : Int) 10 = ((m / 10 : Nat) : Int) := rfl
    have hr : Int.tmod (if s = true then -(m : Int) else (m : Int)) 10 = ((m % 10 : Nat) : Int) ∨ Int.tmod (if s = true then -(m : Int) else (m : Int)) 10 = -((m % 10 : Nat) : Int) := by
      cases s with
      | true => right; rw [if_pos rfl, Int.neg_tmod, t1]
      | false => left; rw [if_neg (by simp), t1]
    have hy : wrap64 (Int.tdiv (if s = true then -(m : Int) else (m : Int)) 10) = if s = true then -((m / 10 : Nat) : Int) else ((m / 10 : Nat) : Int) := by
      cases s with
      | true => rw [if_pos rfl, if_pos rfl, Int.neg_tdiv, t2]; unfold wrap64; omega
      | false => rw [if_neg (by simp), if_neg (by simp), t2]; unfold wrap64; omega
    refine dig_step neg _ _ (m % 10) out (Nat.mod_lt _ (by decide)) hr hy (.inl (by cases s <;> simp <;> omega)) (by omega) ?_
    by_cases h10 : m < 10
    · have e0 : m / 10 = 0 := Nat.div_eq_of_lt h10
      have e1 : m % 10 = m := Nat.mod_eq_of_lt h10
      have e2 : decDigits m = [UInt8.ofNat (48 + m)] := by rw [decDigits, dif_pos h10]
      rw [e0, e1, e2]
      have := dig_end neg (UInt8.ofNat (48 + m) :: out) (by simp) (by simp; omega)
      cases s with
      | true => exact this
      | false => exact this
    · have e2 : decDigits m = decDigits (m / 10) ++ [UInt8.ofNat (48 + m % 10)] := by rw [decDigits, dif_neg h10]
      have := ih (m / 10) (by omega) (UInt8.ofNat (48 + m % 10) :: out) (by omega) (by simp; omega)
      rw [e2, List.append_assoc]
      exact this
theorem digits_ev (n : Int) (h : -4611686018427387904 ≤ n ∧ n ≤ 4611686018427387904) : Ev (fun k => kimberliteref01_Digits.f k n) (bts (itoa n)) := by
  unfold kimberliteref01_Digits.f
  by_cases h0 : n = 0
  · subst h0
    have e : itoa 0 = [48] := by
      unfold itoa
      rw [if_neg (by decide)]
      show decDigits 0 = [48]
      rw [decDigits, dif_pos (by decide)]
      rfl
    rw [e]
    exact dig_step (decide ((0 : Int) < 0)) 0 0 0 [] (by decide) (.inl rfl) (by rw [show Int.tdiv 0 10 = 0 from rfl]; unfold wrap64; omega) (.inr rfl) (by simp) (dig_end _ _ (by simp) (by simp))
  · by_cases hn : n < 0
    · have e : itoa n = 45 :: decDigits n.natAbs := by unfold itoa; rw [if_pos hn]
      have := dig_loop true true n.natAbs [] (by omega) (by simp; omega)
      rw [if_pos rfl, show -((n.natAbs : Nat) : Int) = n by omega, List.append_nil] at this
      rw [e, decide_eq_true hn]
      exact this
    · have e : itoa n = decDigits n.natAbs := by unfold itoa; rw [if_neg hn]; congr 1; omega
      have := dig_loop false false n.natAbs [] (by omega) (by simp; omega)
      rw [if_neg (by simp), show ((n.natAbs : Nat) : Int) = n by omega, List.append_nil] at this
      rw [e, decide_eq_false hn]
      exact this
end Go.Proofs.YtmomcbhgggggnaaGreatDoor.Pr
end
section
namespace Go.Proofs.YtmomcbhgggggnaaGreatDoor.Pr
open Go.RowKit Go.Lib Go.Proofs.YtmomcbhgggggnaaGreatDoorW.PrintWords Go.Proofs.YtmomcbhgggggnaaGreatDoorW.PrintLast Go.Proofs.YtmomcbhgggggnaaGreatDoorW.PrintMore
set_option linter.unusedVariables false
set_option linter.unusedSimpArgs false
theorem bt_bts (l : List UInt8) (i : Nat) (h : i < l.length) : bt (bts l) (i : Int) = ((l[i]).toNat : Int) := by
  unfold bt
  rw [dif_pos (by rw [Int.toNat_natCast]; exact h)]
  rfl
theorem bts_ext (l : List UInt8) (a b : Nat) : (bts l).extract a b = bts ((l.drop a).take (b - a)) := by
  apply ByteArray.ext
  rw [ByteArray.data_extract]
  unfold bts
  simp [List.extract_eq_take_drop]
def numGo : List UInt8 → Nat → Option Nat
  | [], acc => some acc
  | c :: r, acc => if c.toNat < 48 ∨ 57 < c.toNat then none else numGo r (10 * acc + (c.toNat - 48))
def numS (l : List UInt8) : Int := if l.head? = some 45 then -1 else 1
def numT (l : List UInt8) : List UInt8 := if l.head? = some 45 then l.tail else l
def numR (l : List UInt8) : Int × Bool := if l.length > 17 then (0, false) else match numGo (numT l) 0 with
  | none => (0, false)
  | some m => (numS l * (m : Int), itoa (numS l * (m : Int)) == l)
def numEnd (l : List UInt8) (s : Int) : Option Nat → Int × Bool
  | none => (0, false)
  | some m => (s * (m : Int), itoa (s * (m : Int)) == l)
theorem num_wrap (acc c : Nat) (h1 : acc ≤ 100000000000000000) (h2 : 48 ≤ c) (h3 : c ≤ 57) : wrap64 (wrap64 (10 * (acc : Int)) + ((c : Int) - 48) % 256) = ((10 * acc + (c - 48) : Nat) : Int) := by
  have e1 : wrap64 (10 * (acc : Int)) = 10 * (acc : Int) := by unfold wrap64; omega
  have e2 : ((c : Int) - 48) % 256 = (c : Int) - 48 := by omega
  rw [e1, e2]
  unfold wrap64
  omega
theorem num_bad (l : List UInt8) (acc s : Int) (i : Nat) : Ev (fun k => kimberliteref01_Number.j2 k (bts l) acc s (i : Int) true) (0, false) := by
  refine Ev.step (f := fun _ => some (0, false)) (fun k => ?_) (Ev.now _)
  simp only [kimberliteref01_Number.j2]
  rw [if_pos trivial]
theorem num_go {l : List UInt8} (hl : l.length ≤ 17) {s : Int} (hs : s = 1 ∨ s = -1) : ∀ (r : List UInt8) (i acc : Nat), l.drop i = r → i + r.length = l.length → acc < 10 ^ i → (i = 0 → l.head? ≠ some 45) → Ev (fun k => kimberliteref01_Number.l0 k (bts l) (acc : Int) s (i : Int)) (numEnd l s (numGo r acc))
  | [], i, acc, hd, hi, ha, h0 => by
    have hp : 10 ^ i ≤ 10 ^ 17 := Nat.pow_le_pow_right (by decide) (by simp at hi; omega)
    have hq : 10 ^ 17 = 100000000000000000 := by decide
    rw [hq] at hp
    have ew : wrap64 (s * (acc : Int)) = s * (acc : Int) := by
      rcases hs with rfl | rfl
      · unfold wrap64; omega
      · unfold wrap64; omega
    have hd2 := digits_ev (s * (acc : Int)) (by rcases hs with rfl | rfl <;> omega)
    refine Ev.step (fun k => ?_) (Ev.bind hd2 (f := fun k t => some (s * (acc : Int), (t.toList == (bts l).toList))) (Ev.congr (f := fun _ => some (s * (acc : Int), itoa (s * (acc : Int)) == l)) (fun k => by rw [bts_list, bts_list]) (Ev.now _)))
    simp only [kimberliteref01_Number.l0]
    rw [if_neg (by rw [bts_size]; simp at hi; omega), ew]
  | c :: r, i, acc, hd, hi, ha, h0 => by
    rw [List.length_cons] at hi
    have hlt : i < l.length := by omega
    have hc : l[i] = c := by
      have := List.drop_eq_getElem_cons hlt
      rw [hd] at this
      injection this with this _
      exact this.symm
    have hdr : l.drop (i + 1) = r := by
      have := List.drop_eq_getElem_cons hlt
      rw [hd] at this
      injection this with _ this
      exact this.symm
    have hb : bt (bts l) (i : Int) = (c.toNat : Int) := by rw [bt_bts l i hlt, hc]
    have hp : 10 ^ i ≤ 10 ^ 17 := Nat.pow_le_pow_right (by decide) (by omega)
    have hq : 10 ^ 17 = 100000000000000000 := by decide
    rw [hq] at hp
    have hps : 10 ^ (i + 1) = 10 ^ i * 10 := Nat.pow_succ 10 i
    have e1 : wrap64 ((i : Int) + 1) = ((i + 1 : Nat) : Int) := by unfold wrap64; omega
    have hsz : (i : Int) < ((bts l).size : Int) := by rw [bts_size]; omega
    have j1 : Ev (fun k => kimberliteref01_Number.j1 k (bts l) (acc : Int) s (i : Int) false) (numEnd l s (numGo (c :: r) acc)) := by
      by_cases hbad : c.toNat < 48 ∨ 57 < c.toNat
      · have e : numGo (c :: r) acc = none := by simp only [numGo]; rw [if_pos hbad]
        rw [e]
        refine Ev.step (fun k => ?_) (num_bad l acc s i)
        simp only [kimberliteref01_Number.j1]
        rw [if_neg (by simp), if_pos (by omega), if_pos hsz, hb]
        by_cases h48 : c.toNat < 48
        · rw [if_pos (by omega)]
        · rw [if_neg (by omega), decide_eq_true (by omega)]
      · have e : numGo (c :: r) acc = numGo r (10 * acc + (c.toNat - 48)) := by simp only [numGo]; rw [if_neg hbad]
        have ih := num_go hl hs r (i + 1) (10 * acc + (c.toNat - 48)) hdr (by omega) (by rw [hps]; omega) (fun h => by omega)
        rw [e]
        have ew : wrap64 (wrap64 (10 * (acc : Int)) + ((c.toNat : Int) - 48) % 256) = ((10 * acc + (c.toNat - 48) : Nat) : Int) := num_wrap acc c.toNat (Nat.le_of_lt (Nat.lt_of_lt_of_le ha hp)) (by omega) (by omega)
        have j2 : Ev (fun k => kimberliteref01_Number.j2 k (bts l) (acc : Int) s (i : Int) false) (numEnd l s (numGo r (10 * acc + (c.toNat - 48)))) := by
          refine Ev.step (fun k => ?_) ih
          simp only [kimberliteref01_Number.j2]
          rw [if_neg (by simp), if_pos (by omega), if_pos hsz, hb, ew, e1]
        refine Ev.step (fun k => ?_) j2
        simp only [kimberliteref01_Number.j1]
        rw [if_neg (by simp), if_pos (by omega), if_pos hsz, hb, if_neg (by omega), decide_eq_false (by omega)]
    refine Ev.step (fun k => ?_) j1
    simp only [kimberliteref01_Number.l0]
    rw [if_pos hsz]
    by_cases hz : i = 0
    · subst hz
      have h45 : c ≠ 45 := by
        intro h
        apply h0 rfl
        have : l = c :: r := by simpa using hd
        rw [this, h]
        rfl
      have hb0 : bt (bts l) 0 = (c.toNat : Int) := hb
      rw [if_pos (by rfl), if_pos (by rw [bts_size]; omega), hb0]
      have : ((c.toNat : Int) == 45) = false := by
        rw [beq_eq_false_iff_ne]
        intro h
        apply h45
        apply UInt8.toNat_inj.1
        have : c.toNat = 45 := by omega
        rw [this]
        rfl
      rw [this]
    · rw [if_neg (by omega)]
theorem number_ev (l : List UInt8) : Ev (fun k => kimberliteref01_Number.f k (bts l)) (numR l) := by
  unfold kimberliteref01_Number.f
  by_cases hl : l.length > 17
  · have e : numR l = (0, false) := by unfold numR; rw [if_pos hl]
    rw [e]
    exact Ev.congr (f := fun _ => some (0, false)) (fun k => if_pos (by rw [bts_size]; omega)) (Ev.now _)
  · have e : numR l = numEnd l (numS l) (numGo (numT l) 0) := by
      unfold numR
      rw [if_neg hl]
      cases numGo (numT l) 0 <;> rfl
    rw [e]
    refine Ev.congr (fun k => if_neg (by rw [bts_size]; omega)) ?_
    by_cases h45 : l.head? = some 45
    · have es : numS l = -1 := by unfold numS; rw [if_pos h45]
      have et : numT l = l.tail := by unfold numT; rw [if_pos h45]
      obtain ⟨r, rfl⟩ : ∃ r, l = 45 :: r := by
        cases l with
        | nil => simp at h45
        | cons c r => simp at h45; exact ⟨r, by rw [h45]⟩
      rw [es, et]
      have h := num_go (l := 45 :: r) (by omega) (s := -1) (.inr rfl) r 1 0 rfl (by rw [List.length_cons]; omega) (by decide) (fun h => by omega)
      have j1 : Ev (fun k => kimberliteref01_Number.j1 k (bts (45 :: r)) 0 1 0 true) (numEnd (45 :: r) (-1) (numGo r 0)) := by
        refine Ev.step (fun k => ?_) h
        simp only [kimberliteref01_Number.j1]
        rw [if_pos trivial, show wrap64 (0 + 1) = ((1 : Nat) : Int) by unfold wrap64; omega]
        rfl
      refine Ev.step (fun k => ?_) j1
      simp only [kimberliteref01_Number.l0]
      rw [if_pos (by rw [bts_size, List.length_cons]; omega), if_pos trivial, if_pos (by rw [bts_size, List.length_cons]; omega)]
      rfl
    · have es : numS l = 1 := by unfold numS; rw [if_neg h45]
      have et : numT l = l := by unfold numT; rw [if_neg h45]
      rw [es, et]
      exact num_go (by omega) (.inl rfl) l 0 0 rfl (by omega) (by decide) (fun _ => h45)
theorem numGo_append (m : List UInt8) : ∀ (l : List UInt8) (acc : Nat), numGo (l ++ m) acc = (numGo l acc).bind fun v => numGo m v
  | [], acc => rfl
  | c :: r, acc => by
    have ih := numGo_append m r (10 * acc + (c.toNat - 48))
    rw [List.cons_append]
    simp only [numGo]
    split
    · rfl
    · exact ih
theorem numGo_dec (u : Nat) : numGo (decDigits u) 0 = some u := by
  induction u using Nat.strongRecOn with
  | _ u ih =>
    rw [decDigits]
    by_cases h : u < 10
    · rw [dif_pos h]
      simp only [numGo]
      rw [dig_nat u h, if_neg (by omega)]
      congr 1
      omega
    · rw [dif_neg h, numGo_append, ih (u / 10) (by omega)]
      simp only [Option.bind_some, numGo]
      rw [dig_nat (u % 10) (by omega), if_neg (by omega)]
      congr 1
      omega
theorem dec_len : ∀ (k u : Nat), u < 10 ^ (k + 1) → (decDigits u).length ≤ k + 1
  | 0, u, h => by
    have h' : u < 10 := by simpa using h
    rw [decDigits, dif_pos h']
    simp
  | k + 1, u, h => by
    rw [decDigits]
    by_cases h1 : u < 10
    · rw [dif_pos h1]
      simp
    · rw [dif_neg h1, List.length_append, List.length_singleton]
      have := dec_len k (u / 10) (by rw [Nat.pow_succ] at h; omega)
      omega
theorem num_itoa (n : Int) (h : -1099511627776 ≤ n ∧ n ≤ 1099511627776) : numR (itoa n) = (n, true) := by
  have hb := dec_bytes n.natAbs
  have hl := dec_len 12 n.natAbs (by have : 10 ^ (12 + 1) = 10000000000000 := by decide
                                     rw [this]; omega)
  by_cases hn : n < 0
  · have e : itoa n = 45 :: decDigits n.natAbs := by unfold itoa; rw [if_pos hn]
    have es : numS (itoa n) = -1 := by unfold numS; rw [e]; rfl
    have et : numT (itoa n) = decDigits n.natAbs := by unfold numT; rw [e]; rfl
    unfold numR
    rw [if_neg (by rw [e, List.length_cons]; omega), et, numGo_dec, es]
    simp only
    rw [show -1 * ((n.natAbs : Nat) : Int) = n by omega, beq_self_eq_true]
  · have e : itoa n = decDigits n.natAbs := by unfold itoa; rw [if_neg hn]; congr 1; omega
    have hh : (itoa n).head? ≠ some 45 := by
      rw [e]
      intro h45
      have : (45 : UInt8) ∈ decDigits n.natAbs := List.mem_of_mem_head? h45
      have := hb _ this
      simp at this
    have es : numS (itoa n) = 1 := by unfold numS; rw [if_neg hh]
    have et : numT (itoa n) = decDigits n.natAbs := by unfold numT; rw [if_neg hh, e]
    unfold numR
    rw [if_neg (by rw [e]; omega), et, numGo_dec, es]
    simp only
    rw [show 1 * ((n.natAbs : Nat) : Int) = n by omega, beq_self_eq_true]
end Go.Proofs.YtmomcbhgggggnaaGreatDoor.Pr
end
section
namespace Go.Proofs.YtmomcbhgggggnaaGreatDoor.Pr
open Go.RowKit Go.Proofs.YtmomcbhgggggnaaGreatDoorW.PrintWords Go.Proofs.YtmomcbhgggggnaaGreatDoorW.PrintLast Go.Proofs.YtmomcbhgggggnaaGreatDoorW.PrintMore
set_option linter.unusedVariables false
set_option linter.unusedSimpArgs false
theorem rd_nat (l : List S41) (i : Nat) : rd_T41 l (i : Int) = l.getD i z41 := by unfold rd_T41; rw [Int.toNat_natCast]
theorem wrap_succ {i n : Nat} (h : i < n) (hn : n ≤ 9223372036854775807) : wrap64 ((i : Int) + 1) = ((i + 1 : Nat) : Int) := by
  unfold wrap64
  omega
theorem wrap_pred {i n : Nat} (h0 : 0 < i) (h : i < n) (hn : n ≤ 9223372036854775807) : wrap64 ((i : Int) - 1) = ((i - 1 : Nat) : Int) := by
  unfold wrap64
  omega
def okAt (l : List S41) (i : Nat) : Bool := goodS (l.getD i z41) && (i == 0 || decide ((l.getD (i - 1) z41).f1 < (l.getD i z41).f0))
def validFrom (l : List S41) (i : Nat) : Bool := (List.range' i (l.length - i)).all (okAt l)
theorem validFrom_end (l : List S41) (i : Nat) (h : l.length ≤ i) : validFrom l i = true := by
  unfold validFrom
  rw [Nat.sub_eq_zero_of_le h]
  rfl
theorem validFrom_step (l : List S41) (i : Nat) (h : i < l.length) : validFrom l i = (okAt l i && validFrom l (i + 1)) := by
  unfold validFrom
  rw [show l.length - i = (l.length - (i + 1)) + 1 by omega, List.range'_succ, List.all_cons]
def validS (l : List S41) : Bool := decide (l.length ≤ 128) && validFrom l 0
theorem spanValid_step (l : List S41) (i k : Nat) (h : i < l.length) (hn : l.length ≤ 9223372036854775807) :
    span_Valid.l0 (k + 1) l l (l.length : Int) (i : Int) = span_Valid.j1 k l l (l.length : Int) (i : Int) (!okAt l i) := by
  have hlt : (i : Int) < (l.length : Int) := by omega
  simp only [span_Valid.l0]
  rw [if_pos hlt, if_pos (by omega), if_pos hlt, goodS_f, Option.bind_some]
  unfold okAt
  cases hg : goodS (rd_T41 l (i : Int)) with
  | false => rw [rd_nat] at hg; simp only [hg]; simp
  | true =>
    rw [rd_nat] at hg
    simp only [hg, Bool.true_and]
    rw [if_pos trivial]
    by_cases h0 : i = 0
    · subst h0
      simp
    · have e0 : (i == 0) = false := by simpa using h0
      rw [if_pos (by omega : (i : Int) > 0), wrap_pred (by omega) h hn, if_pos (by omega), if_pos (by omega), rd_nat, rd_nat, e0, Bool.false_or]
      congr 1
      rw [Bool.eq_iff_iff]
      simp
theorem spanValid_loop (l : List S41) (hn : l.length ≤ 9223372036854775807) : ∀ (d i : Nat), l.length - i = d → Ev (fun k => span_Valid.l0 k l l (l.length : Int) (i : Int)) (validFrom l i)
  | 0, i, h => by
    rw [validFrom_end l i (by omega)]
    exact Ev.step (f := fun _ => some true) (fun k => by simp only [span_Valid.l0]; rw [if_neg (by omega)]) (Ev.now _)
  | d + 1, i, h => by
    rw [validFrom_step l i (by omega)]
    refine Ev.step (fun k => spanValid_step l i k (by omega) hn) ?_
    cases okAt l i with
    | true => exact Ev.step (f := fun k => span_Valid.l0 k l l (l.length : Int) ((i + 1 : Nat) : Int)) (fun k => by simp only [span_Valid.j1]; rw [wrap_succ (show i < l.length by omega) hn]; simp) (by simpa using spanValid_loop l hn d (i + 1) (by omega))
    | false => exact Ev.step (f := fun _ => some false) (fun k => by simp only [span_Valid.j1]; simp) (Ev.now _)
theorem spanValid_ev (l : List S41) (hn : l.length ≤ 9223372036854775807) : Ev (fun k => span_Valid.f k l) (validS l) := by
  unfold span_Valid.f validS
  by_cases h : (l.length : Int) > 128
  · rw [show decide (l.length ≤ 128) = false by simp; omega]
    simpa [h] using Ev.now false
  · rw [show decide (l.length ≤ 128) = true by simp; omega]
    simpa [h] using spanValid_loop l hn _ 0 rfl
theorem refGood_f (x : S41) : kimberliteref01_Good.f x.f0 x.f1 = some (goodS x) := goodS_f x
theorem refValid_step (l : List S41) (i k : Nat) (h : i < l.length) (hn : l.length ≤ 9223372036854775807) :
    kimberliteref01_Valid.l0 (k + 1) l (i : Int) = kimberliteref01_Valid.j1 k l (i : Int) (!okAt l i) := by
  have hlt : (i : Int) < (l.length : Int) := by omega
  simp only [kimberliteref01_Valid.l0]
  rw [if_pos hlt, if_pos (by omega), refGood_f, Option.bind_some]
  unfold okAt
  cases hg : goodS (rd_T41 l (i : Int)) with
  | false => rw [rd_nat] at hg; simp only [hg]; simp
  | true =>
    rw [rd_nat] at hg
    simp only [hg, Bool.true_and]
    rw [if_pos trivial]
    by_cases h0 : i = 0
    · subst h0
      simp
    · have e0 : (i == 0) = false := by simpa using h0
      rw [if_pos (by omega : (i : Int) > 0), wrap_pred (by omega) h hn, if_pos (by omega), if_pos (by omega), rd_nat, rd_nat, e0, Bool.false_or]
      congr 1
      rw [Bool.eq_iff_iff]
      simp
theorem refValid_loop (l : List S41) (hn : l.length ≤ 9223372036854775807) : ∀ (d i : Nat), l.length - i = d → Ev (fun k => kimberliteref01_Valid.l0 k l (i : Int)) (validFrom l i)
  | 0, i, h => by
    rw [validFrom_end l i (by omega)]
    exact Ev.step (f := fun _ => some true) (fun k => by simp only [kimberliteref01_Valid.l0]; rw [if_neg (by omega)]) (Ev.now _)
  | d + 1, i, h => by
    rw [validFrom_step l i (by omega)]
    refine Ev.step (fun k => refValid_step l i k (by omega) hn) ?_
    cases okAt l i with
    | true => exact Ev.step (f := fun k => kimberliteref01_Valid.l0 k l ((i + 1 : Nat) : Int)) (fun k => by simp only [kimberliteref01_Valid.j1]; rw [wrap_succ (show i < l.length by omega) hn]; simp) (by simpa using refValid_loop l hn d (i + 1) (by omega))
    | false => exact Ev.step (f := fun _ => some false) (fun k => by simp only [kimberliteref01_Valid.j1]; simp) (Ev.now _)
theorem refValid_ev (l : List S41) (hn : l.length ≤ 9223372036854775807) : Ev (fun k => kimberliteref01_Valid.f k l) (validS l) := by
  unfold kimberliteref01_Valid.f validS
  by_cases h : (l.length : Int) > 128
  · rw [show decide (l.length ≤ 128) = false by simp; omega]
    simpa [h] using Ev.now false
  · rw [show decide (l.length ≤ 128) = true by simp; omega]
    simpa [h] using refValid_loop l hn _ 0 rfl
theorem goodS_iff (s : S41) : goodS s = true ↔ -1099511627776 ≤ s.f0 ∧ s.f0 < s.f1 ∧ s.f1 ≤ 1099511627776 := by
  unfold goodS
  simp
theorem valid_good {l : List S41} (h : validS l = true) : l.length ≤ 128 ∧ ∀ i, i < l.length → goodS (l.getD i z41) = true := by
  unfold validS at h
  rw [Bool.and_eq_true, decide_eq_true_eq] at h
  refine ⟨h.1, fun i hi => ?_⟩
  have h2 := h.2
  unfold validFrom at h2
  rw [List.all_eq_true] at h2
  have := h2 i (by rw [List.mem_range'_1]; omega)
  unfold okAt at this
  rw [Bool.and_eq_true] at this
  exact this.1
end Go.Proofs.YtmomcbhgggggnaaGreatDoor.Pr
end
section
namespace Go.Proofs.YtmomcbhgggggnaaGreatDoor.Pr
open Go.RowKit Go.Lib Go.Proofs.YtmomcbhgggggnaaGreatDoorW.PrintWords Go.Proofs.YtmomcbhgggggnaaGreatDoorW.PrintLast Go.Proofs.YtmomcbhgggggnaaGreatDoorW.PrintMore
set_option linter.unusedVariables false
set_option linter.unusedSimpArgs false
def spanB (p : S41) : List UInt8 := itoa p.f0 ++ 46 :: 46 :: itoa p.f1
def textB (a : List S41) : List UInt8 := if a = [] then [45] else join (a.map spanB) [32]
def textR (a : List S41) : ByteArray × Int := if validS a = true then (bts (textB a), 0) else (bts [], 2)
theorem join_snoc (w : List UInt8) : ∀ l : List (List UInt8), l ≠ [] → join (l ++ [w]) [32] = join l [32] ++ 32 :: w
  | [], h => absurd rfl h
  | [x], _ => by
    rw [List.cons_append, List.nil_append, join_two, join_one, join_one]
    rfl
  | x :: y :: t, _ => by
    have ih := join_snoc w (y :: t) (by simp)
    rw [List.cons_append, List.cons_append, join_two, join_two, ← List.cons_append, ih, List.append_assoc, List.append_assoc]
def joinTo (a : List S41) (i : Nat) : List UInt8 := join ((a.take i).map spanB) [32]
theorem take_snocS (a : List S41) (i : Nat) (h : i < a.length) : a.take (i + 1) = a.take i ++ [a.getD i z41] := by
  rw [List.take_add_one, List.getD_eq_getElem?_getD, List.getElem?_eq_getElem h]
  rfl
theorem joinTo_succ (a : List S41) (i : Nat) (h : i < a.length) : joinTo a (i + 1) = if i = 0 then spanB (a.getD i z41) else joinTo a i ++ 32 :: spanB (a.getD i z41) := by
  unfold joinTo
  rw [take_snocS a i h, List.map_append]
  by_cases h0 : i = 0
  · subst h0
    rw [if_pos rfl, List.take_zero, List.map_nil, List.nil_append]
    exact join_one _ _
  · rw [if_neg h0]
    exact join_snoc _ _ (by
      intro e
      have := congrArg List.length e
      rw [List.length_map, List.length_take, List.length_nil] at this
      omega)
theorem good_range {p : S41} (h : goodS p = true) : (-1099511627776 ≤ p.f0 ∧ p.f0 ≤ 1099511627776) ∧ (-1099511627776 ≤ p.f1 ∧ p.f1 ≤ 1099511627776) := by
  have := (goodS_iff p).1 h
  omega
theorem span_len {p : S41} (h : goodS p = true) : (spanB p).length ≤ 44 := by
  obtain ⟨⟨a1, a2⟩, b1, b2⟩ := good_range h
  have h1 := itoa_length_le p.f0 (by omega) (by omega)
  have h2 := itoa_length_le p.f1 (by omega) (by omega)
  unfold spanB
  rw [List.length_append, List.length_cons, List.length_cons]
  omega
theorem joinTo_len {a : List S41} (h : validS a = true) : ∀ i, i ≤ a.length → (joinTo a i).length ≤ 45 * i
  | 0, _ => by simp [joinTo, join, List.intercalate]
  | i + 1, hi => by
    have ih := joinTo_len h i (by omega)
    have hs := span_len ((valid_good h).2 i (by omega))
    rw [joinTo_succ a i (by omega)]
    split
    · omega
    · rw [List.length_append, List.length_cons]
      omega
theorem rdS (a : List S41) (i : Nat) : rd_T41 a (i : Int) = a.getD i z41 := by unfold rd_T41; rw [Int.toNat_natCast]
theorem rtext_loop {a : List S41} (h : validS a = true) : ∀ d i : Nat, i + d = a.length → Ev (fun k => kimberliteref01_Text.l0 k a (bts (joinTo a i)) (i : Int)) (bts (joinTo a a.length), 0)
  | 0, i, hi => by
    obtain rfl : i = a.length := by omega
    refine Ev.step (f := fun _ => some (bts (joinTo a a.length), 0)) (fun k => ?_) (Ev.now _)
    simp only [kimberliteref01_Text.l0]
    rw [if_neg (by omega)]
  | d + 1, i, hi => by
    obtain ⟨hl, hg⟩ := valid_good h
    have hgi := hg i (by omega)
    obtain ⟨⟨a1, a2⟩, b1, b2⟩ := good_range hgi
    have ih := rtext_loop h d (i + 1) (by omega)
    have hlen := joinTo_len h i (by omega)
    have l1 := itoa_length_le (a.getD i z41).f0 (by omega) (by omega)
    have l2 := itoa_length_le (a.getD i z41).f1 (by omega) (by omega)
    have e1 : wrap64 ((i : Int) + 1) = ((i + 1 : Nat) : Int) := by unfold wrap64; omega
    have main : ∀ acc : List UInt8, acc.length ≤ 10000 → acc ++ spanB (a.getD i z41) = joinTo a (i + 1) → Ev (fun k => kimberliteref01_Text.j1 k a (bts acc) (i : Int)) (bts (joinTo a a.length), 0) := by
      intro acc hacc he
      have d0 := digits_ev (a.getD i z41).f0 (by omega)
      have d1 := digits_ev (a.getD i z41).f1 (by omega)
      have s1 : (bts acc ++ bts (itoa (a.getD i z41).f0)).size = acc.length + (itoa (a.getD i z41).f0).length := by rw [bts_app, bts_size, List.length_append]
      have s2 : ((bts acc ++ bts (itoa (a.getD i z41).f0)) ++ (⟨#[46, 46]⟩ : ByteArray)).size = acc.length + (itoa (a.getD i z41).f0).length + 2 := by rw [ByteArray.size_append, s1]; rfl
      have e2 : ((bts acc ++ bts (itoa (a.getD i z41).f0)) ++ (⟨#[46, 46]⟩ : ByteArray)) ++ bts (itoa (a.getD i z41).f1) = bts (joinTo a (i + 1)) := by
        rw [← he]
        show ((bts acc ++ bts (itoa (a.getD i z41).f0)) ++ bts [46, 46]) ++ bts (itoa (a.getD i z41).f1) = _
        rw [bts_app, bts_app, bts_app]
        congr 1
        unfold spanB
        simp [List.append_assoc]
      have hb := Ev.bind d0 (f := fun k t152 => if (bts acc).size + t152.size ≤ 9223372036854775807 then (if ((bts acc) ++ t152).size + 2 ≤ 9223372036854775807 then ((kimberliteref01_Digits.f k ((rd_T41 a (i : Int)).f1)).bind fun t154 => (if (((bts acc) ++ t152) ++ (⟨#[46, 46]⟩ : ByteArray)).size + t154.size ≤ 9223372036854775807 then (kimberliteref01_Text.l0 k a ((((bts acc) ++ t152) ++ (⟨#[46, 46]⟩ : ByteArray)) ++ t154) (wrap64 ((i : Int) + 1))) else (none))) else (none)) else (none)) (r := (bts (joinTo a a.length), (0 : Int))) (by
        refine Ev.congr (fun k => if_pos (by rw [bts_size, bts_size]; omega)) (Ev.congr (fun k => if_pos (by rw [s1]; omega)) ?_)
        rw [rdS]
        refine Ev.bind d1 (Ev.congr (fun k => if_pos (by rw [s2, bts_size]; omega)) ?_)
        rw [e2, e1]
        exact ih)
      refine Ev.step (fun k => ?_) hb
      simp only [kimberliteref01_Text.j1]
      rw [if_pos (by omega), if_pos (by omega), rdS]
    by_cases h0 : i = 0
    · subst h0
      refine Ev.step (fun k => ?_) (main [] (by simp) (by rw [joinTo_succ a 0 (by omega), if_pos rfl]; rfl))
      simp only [kimberliteref01_Text.l0]
      rw [if_pos (by omega), if_neg (by omega)]
      rfl
    · refine Ev.step (fun k => ?_) (main (joinTo a i ++ [32]) (by rw [List.length_append, List.length_singleton]; omega) (by rw [joinTo_succ a i (by omega), if_neg h0, List.append_assoc]; rfl))
      simp only [kimberliteref01_Text.l0]
      rw [if_pos (by omega), if_pos (by omega), if_pos (by rw [bts_size]; omega)]
      rw [show (bts (joinTo a i) ++ (⟨#[32]⟩ : ByteArray)) = bts (joinTo a i ++ [32]) from bts_app _ [32]]
theorem rtext_ev (a : List S41) (hn : a.length ≤ 9223372036854775807) : Ev (fun k => kimberliteref01_Text.f k a) (textR a) := by
  unfold kimberliteref01_Text.f
  refine Ev.bind (refValid_ev a hn) ?_
  cases hv : validS a with
  | false =>
    have e : textR a = (bts [], 2) := by unfold textR; rw [hv]; rfl
    rw [e]
    exact Ev.congr (f := fun _ => some (bts [], 2)) (fun k => if_neg (by simp)) (Ev.now _)
  | true =>
    refine Ev.congr (fun k => if_pos rfl) ?_
    by_cases h0 : a.length = 0
    · obtain rfl : a = [] := List.eq_nil_of_length_eq_zero h0
      have e : textR [] = (bts [45], 0) := by unfold textR; rw [hv]; rfl
      rw [e]
      exact Ev.congr (f := fun _ => some (bts [45], 0)) (fun k => if_pos (by simp)) (Ev.now _)
    · have e : textR a = (bts (joinTo a a.length), 0) := by
        unfold textR textB joinTo
        rw [hv, if_pos rfl, if_neg (by rintro rfl; exact h0 rfl), List.take_length]
      rw [e]
      refine Ev.congr (fun k => if_neg (by omega)) ?_
      exact rtext_loop hv a.length 0 (by omega)
theorem text_loop {a : List S41} (h : validS a = true) : ∀ d i : Nat, i + d = a.length → Ev (fun k => span_Text.l0 k ((a.take i).map fun p => bts (spanB p)) a (a.length : Int) (i : Int)) (bts (joinTo a a.length), 0)
  | 0, i, hi => by
    obtain rfl : i = a.length := by omega
    obtain ⟨hl, hg⟩ := valid_good h
    have hlen := joinTo_len h a.length (Nat.le_refl _)
    have e : strings_Join.f ((a.take a.length).map fun p => bts (spanB p)) (⟨#[32]⟩ : ByteArray) = some (bts (joinTo a a.length)) := by
      unfold strings_Join.f
      have e2 : ((a.take a.length).map fun p => bts (spanB p)).map (·.data.toList) = (a.take a.length).map spanB := by rw [List.map_map]; rfl
      have e3 : join (((a.take a.length).map fun p => bts (spanB p)).map (·.data.toList)) (⟨#[32]⟩ : ByteArray).data.toList = joinTo a a.length := by rw [e2]; rfl
      rw [e3, if_pos ⟨by rw [List.length_map, List.length_take]; omega, by omega⟩]
      rfl
    refine Ev.step (f := fun _ => some (bts (joinTo a a.length), 0)) (fun k => ?_) (Ev.now _)
    simp only [span_Text.l0]
    rw [if_neg (by omega), e]
    rfl
  | d + 1, i, hi => by
    obtain ⟨hl, hg⟩ := valid_good h
    have hgi := hg i (by omega)
    obtain ⟨⟨a1, a2⟩, b1, b2⟩ := good_range hgi
    have ih := text_loop h d (i + 1) (by omega)
    have l1 := itoa_length_le (a.getD i z41).f0 (by omega) (by omega)
    have l2 := itoa_length_le (a.getD i z41).f1 (by omega) (by omega)
    have e1 : wrap64 ((i : Int) + 1) = ((i + 1 : Nat) : Int) := by unfold wrap64; omega
    have t1 : strconv_Itoa.f (a.getD i z41).f0 = some (bts (itoa (a.getD i z41).f0)) := by unfold strconv_Itoa.f; rw [if_pos (by omega)]; rfl
    have t2 : strconv_Itoa.f (a.getD i z41).f1 = some (bts (itoa (a.getD i z41).f1)) := by unfold strconv_Itoa.f; rw [if_pos (by omega)]; rfl
    have e2 : (bts (itoa (a.getD i z41).f0) ++ (⟨#[46, 46]⟩ : ByteArray)) ++ bts (itoa (a.getD i z41).f1) = bts (spanB (a.getD i z41)) := by
      show (bts (itoa (a.getD i z41).f0) ++ bts [46, 46]) ++ bts (itoa (a.getD i z41).f1) = _
      rw [bts_app, bts_app]
      congr 1
      unfold spanB
      simp [List.append_assoc]
    have s1 : (bts (itoa (a.getD i z41).f0) ++ (⟨#[46, 46]⟩ : ByteArray)).size = (itoa (a.getD i z41).f0).length + 2 := by rw [ByteArray.size_append, bts_size]; rfl
    refine Ev.step (fun k => ?_) ih
    simp only [span_Text.l0]
    rw [if_pos (by omega), if_pos (by omega), if_pos (by omega), rdS, t1, Option.bind_some, if_pos (by rw [bts_size]; omega), t2, Option.bind_some, if_pos (by rw [s1, bts_size]; omega), if_pos (by rw [List.length_map, List.length_take]; omega), e2, e1]
    rw [take_snocS a i (by omega), List.map_append]
    rfl
theorem text_ev (a : List S41) (hn : a.length ≤ 9223372036854775807) : Ev (fun k => span_Text.f k a) (textR a) := by
  unfold span_Text.f
  refine Ev.bind (spanValid_ev a hn) ?_
  cases hv : validS a with
  | false =>
    have e : textR a = (bts [], 2) := by unfold textR; rw [hv]; rfl
    rw [e]
    exact Ev.congr (f := fun _ => some (bts [], 2)) (fun k => if_neg (by simp)) (Ev.now _)
  | true =>
    refine Ev.congr (fun k => if_pos rfl) ?_
    by_cases h0 : a.length = 0
    · obtain rfl : a = [] := List.eq_nil_of_length_eq_zero h0
      have e : textR [] = (bts [45], 0) := by unfold textR; rw [hv]; rfl
      rw [e]
      exact Ev.congr (f := fun _ => some (bts [45], 0)) (fun k => if_pos (by simp)) (Ev.now _)
    · have e : textR a = (bts (joinTo a a.length), 0) := by
        unfold textR textB joinTo
        rw [hv, if_pos rfl, if_neg (by rintro rfl; exact h0 rfl), List.take_length]
      rw [e]
      refine Ev.congr (fun k => if_neg (by omega)) ?_
      exact text_loop hv a.length 0 (by omega)
end Go.Proofs.YtmomcbhgggggnaaGreatDoor.Pr
end
section
namespace Go.Proofs.YtmomcbhgggggnaaGreatDoor.Pr
open Go.RowKit Go.Lib Go.Proofs.YtmomcbhgggggnaaGreatDoorW.PrintWords Go.Proofs.YtmomcbhgggggnaaGreatDoorW.PrintLast Go.Proofs.YtmomcbhgggggnaaGreatDoorW.PrintMore
set_option linter.unusedVariables false
set_option linter.unusedSimpArgs false
theorem dat_list (s : ByteArray) : s.data.toList = s.toList := (toList_data s).symm
/-- A parse is well: the set's text is the string. -/
def Canon (s : ByteArray) (a : List S41) : Prop := validS a = true ∧ textB a = s.toList
theorem word_span {p : S41} (h : goodS p = true) : wordR (bts (spanB p)) = some p := by
  obtain ⟨⟨a1, a2⟩, b1, b2⟩ := good_range h
  have e : cut (bts (spanB p)).data.toList [46, 46] = (itoa p.f0, itoa p.f1, true) := cut_two _ _ fun b hb => (itoa_no p.f0 b hb).2
  unfold wordR
  rw [e, if_pos rfl]
  simp only
  rw [atoi_itoa _ (by omega) (by omega), atoi_itoa _ (by omega) (by omega)]
  rfl
theorem words_span : ∀ (l out : List S41), (∀ p ∈ l, goodS p = true) → out.length + l.length ≤ 128 → wordsR (l.map fun p => bts (spanB p)) out = some (out ++ l)
  | [], out, _, _ => by rw [List.map_nil, List.append_nil]; rfl
  | p :: t, out, hg, hl => by
    rw [List.length_cons] at hl
    have ih := words_span t (out ++ [p]) (fun q hq => hg q (List.mem_cons_of_mem _ hq)) (by rw [List.length_append, List.length_singleton]; omega)
    rw [List.map_cons]
    simp only [wordsR]
    rw [word_span (hg p List.mem_cons_self)]
    simp only
    rw [if_neg (by omega), ih, List.append_assoc]
    rfl
theorem valid_mem {a : List S41} (h : validS a = true) : a.length ≤ 128 ∧ ∀ p ∈ a, goodS p = true := by
  obtain ⟨h1, h2⟩ := valid_good h
  refine ⟨h1, fun p hp => ?_⟩
  obtain ⟨i, hi, rfl⟩ := List.mem_iff_getElem.1 hp
  have := h2 i hi
  rwa [List.getD_eq_getElem?_getD, List.getElem?_eq_getElem hi] at this
theorem span_no32 (p : S41) : ∀ b ∈ spanB p, b ≠ 32 := by
  intro b hb
  unfold spanB at hb
  rcases List.mem_append.1 hb with h | h
  · exact (itoa_no _ b h).1
  · rcases List.mem_cons.1 h with rfl | h
    · decide
    · rcases List.mem_cons.1 h with rfl | h
      · decide
      · exact (itoa_no _ b h).1
theorem text_split {a : List S41} (h0 : a ≠ []) : split (textB a) [32] = a.map spanB := by
  unfold textB
  rw [if_neg h0]
  exact split_join _ (by simpa using h0) fun w hw => by
    obtain ⟨p, _, rfl⟩ := List.mem_map.1 hw
    exact span_no32 p
theorem words_list (s : ByteArray) : (wordsOf s).map (·.toList) = split s.toList [32] := by
  have h := splitB_data ⟨#[32]⟩ 0 (countB s ⟨#[32]⟩) s
  rw [show (fun x : ByteArray => x.data.toList) = fun x => x.toList from funext dat_list] at h
  unfold wordsOf
  rw [h, dat_list s]
  show splitK [32] 0 (count s.data.toList [32]) s.toList = splitK [32] 0 (count s.toList [32]) s.toList
  rw [dat_list s]
theorem words_of {s : ByteArray} {ws : List (List UInt8)} (h : split s.toList [32] = ws) : wordsOf s = ws.map bts := by
  rw [← h, ← words_list, List.map_map]
  rw [show (bts ∘ fun x : ByteArray => x.toList) = id from funext bts_of, List.map_id]
theorem text_dash {a : List S41} (h0 : a ≠ []) : textB a ≠ [45] := by
  intro h
  have hs := text_split h0
  rw [h] at hs
  obtain ⟨p, t, rfl⟩ : ∃ p t, a = p :: t := by
    cases a with
    | nil => exact absurd rfl h0
    | cons p t => exact ⟨p, t, rfl⟩
  rw [List.map_cons] at hs
  have e : split [45] [32] = [[45]] := by decide
  rw [e] at hs
  injection hs with hs _
  have : (46 : UInt8) ∈ spanB p := by
    unfold spanB
    exact List.mem_append_right _ List.mem_cons_self
  rw [← hs] at this
  simp at this
theorem canon_words {s : ByteArray} {a : List S41} (h : Canon s a) (h0 : a ≠ []) : wordsR (wordsOf s) [] = some a := by
  obtain ⟨hv, ht⟩ := h
  obtain ⟨h1, h2⟩ := valid_mem hv
  have e := text_split h0
  rw [ht] at e
  rw [words_of e, List.map_map]
  exact words_span a [] h2 (by simpa using h1)
theorem end_ev (s : ByteArray) (out : List S41) (hn : out.length ≤ 9223372036854775807) : (Canon s out ∧ Ev (fun k => parseEnd k s out) (out, 0)) ∨ (¬Canon s out ∧ Ev (fun k => parseEnd k s out) ([], 5)) := by
  unfold parseEnd
  cases hv : validS out with
  | false =>
    refine .inr ⟨fun h => (by rw [h.1] at hv; cases hv), Ev.bind (text_ev out hn) ?_⟩
    have e : textR out = (bts [], 2) := by unfold textR; rw [hv]; rfl
    rw [e]
    exact Ev.congr (f := fun _ => some ([], 5)) (fun k => if_neg (by simp)) (Ev.now _)
  | true =>
    have e : textR out = (bts (textB out), 0) := by unfold textR; rw [hv]; rfl
    by_cases hc : textB out = s.toList
    · refine .inl ⟨⟨hv, hc⟩, Ev.bind (text_ev out hn) ?_⟩
      rw [e]
      exact Ev.congr (f := fun _ => some (out, 0)) (fun k => if_pos ⟨rfl, by rw [bts_list]; exact hc⟩) (Ev.now _)
    · refine .inr ⟨fun h => hc h.2, Ev.bind (text_ev out hn) ?_⟩
      rw [e]
      exact Ev.congr (f := fun _ => some ([], 5)) (fun k => if_neg (fun h => hc (by have := h.2; rwa [bts_list] at this))) (Ev.now _)
theorem words_len : ∀ (ws : List ByteArray) (out r : List S41), wordsR ws out = some r → r.length = out.length + ws.length
  | [], out, r, h => by
    simp only [wordsR, Option.some.injEq] at h
    subst h
    rfl
  | x :: t, out, r, h => by
    simp only [wordsR] at h
    split at h
    · split at h
      · cases h
      · have := words_len t _ r h
        rw [List.length_append, List.length_singleton] at this
        rw [List.length_cons]
        omega
    · cases h
/-- The set whose text it is, or the error. -/
theorem parse_ev (s : ByteArray) (hs : s.size ≤ 1000000) : (∃ a, Canon s a ∧ Ev (fun k => span_Parse.f k s) (a, 0)) ∨ ((∀ a, ¬Canon s a) ∧ Ev (fun k => span_Parse.f k s) ([], 5)) := by
  unfold span_Parse.f
  by_cases h45 : s.toList = ([45] : List UInt8)
  · have hc : Canon s [] := ⟨by rfl, by rw [h45]; rfl⟩
    rcases end_ev s [] (by simp) with ⟨_, he⟩ | ⟨hn, _⟩
    · exact .inl ⟨[], hc, Ev.congr (fun k => if_pos h45) he⟩
    · exact absurd hc hn
  · have key : ∀ a, Canon s a → wordsR (wordsOf s) [] = some a := fun a ha => canon_words ha (by
      rintro rfl
      exact h45 ha.2.symm)
    cases hw : wordsR (wordsOf s) [] with
    | none =>
      refine .inr ⟨fun a ha => (by rw [key a ha] at hw; cases hw), ?_⟩
      exact Ev.congr (f := fun _ => some ([], 5)) (fun k => if_neg h45) (Ev.now _)
    | some out =>
      have hl : (wordsOf s).length = countB s ⟨#[32]⟩ + 1 := splitB_all ⟨#[32]⟩ (by decide) 0 _ s rfl
      have e2 := count_le s.data.toList [32]
      have e3 : s.data.toList.length = s.size := by rw [Array.length_toList]; rfl
      have e4 : countB s ⟨#[32]⟩ = count s.data.toList [32] := rfl
      have hlen := words_len _ _ _ hw
      rcases end_ev s out (by rw [hlen, List.length_nil]; omega) with ⟨hc, he⟩ | ⟨hn, he⟩
      · exact .inl ⟨out, hc, Ev.congr (fun k => if_neg h45) he⟩
      · refine .inr ⟨fun a ha => ?_, Ev.congr (fun k => if_neg h45) he⟩
        have := key a ha
        rw [hw] at this
        injection this with this
        subst this
        exact hn ha
end Go.Proofs.YtmomcbhgggggnaaGreatDoor.Pr
end
