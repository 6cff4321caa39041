/- What the proof of the law needs, trimmed and merged by wip/pack.py out of the texts YtningpmoojnomaaPrx31. No condition. -/
import Derived.Test.YtningpmoojnomaaKSpanFewest0
import Derived.Test.YtningpmoojnomaaKSpanFewest1
import Derived.Test.YtningpmoojnomaaKSpanFewest2
import Derived.Test.YtningpmoojnomaaKSpanFewest3
import Derived.Test.YtningpmoojnomaaKSpanFewest4
section
namespace Go.Proofs.Ytningpmoojnomaa.Pr
open Go.RowKit Go.Proofs.YtningpmoojnomaaW.PrintWords Go.Proofs.YtningpmoojnomaaW.PrintLast Go.Proofs.YtningpmoojnomaaW.PrintMore
attribute [local go_sem] max2_int min2_int max_two min_two max_three min_three max_four min_four   -- for this text's walks alone
set_option linter.unusedVariables false
set_option linter.unusedSimpArgs false
mutual
def kimberlitelaw01_SpanFewest.j0 : Nat → List (S32) → List Bool → List Int → List Int → Bool → Int → Int → Option (Bool)
 | 0, _, _, _, _, _, _, _ => none
 | k + 1, x1, x2, x7, x9, x71, x429000, x429001 => if x71 = true then (some false) else (if 0 ≤ (x1.length : Int) then (if ((x1.length : Int) : Int).toNat ≤ 281474976710656 then (kimberlitelaw01_SpanFewest.l0 k x1 x2 x7 x9 (List.replicate ((x1.length : Int) : Int).toNat false) 0 x429000 x429001) else (none)) else (none))
def kimberlitelaw01_SpanFewest.l0 : Nat → List (S32) → List Bool → List Int → List Int → List Bool → Int → Int → Int → Option (Bool)
 | 0, _, _, _, _, _, _, _, _ => none
 | k + 1, x1, x2, x7, x9, x11, x12, x429000, x429001 => if x12 < (x7.length : Int) then (if 0 ≤ x12 then (if (rd x7 x12) < 0 then (kimberlitelaw01_SpanFewest.j2 k x1 x2 x7 x9 x11 x12 true x429000 x429001) else (if (rd x7 x12) ≥ (x1.length : Int) then (kimberlitelaw01_SpanFewest.j2 k x1 x2 x7 x9 x11 x12 true x429000 x429001) else (if 0 ≤ (rd x7 x12) then (if (rd x7 x12) < (x11.length : Int) then (if rdOf false x11 (rd x7 x12) = true then (kimberlitelaw01_SpanFewest.j2 k x1 x2 x7 x9 x11 x12 true x429000 x429001) else (if x12 < (x9.length : Int) then (if (rd x9 x12) < x429000 then (kimberlitelaw01_SpanFewest.j2 k x1 x2 x7 x9 x11 x12 true x429000 x429001) else (kimberlitelaw01_SpanFewest.j2 k x1 x2 x7 x9 x11 x12 (decide ((rd x9 x12) ≥ x429001)) x429000 x429001)) else (none))) else (none)) else (none)))) else (none)) else (kimberlitelaw01_SpanFewest.l1 k x1 x2 x7 x9 x11 0 x429000 x429001)
def kimberlitelaw01_SpanFewest.j2 : Nat → List (S32) → List Bool → List Int → List Int → List Bool → Int → Bool → Int → Int → Option (Bool)
 | 0, _, _, _, _, _, _, _, _, _ => none
 | k + 1, x1, x2, x7, x9, x11, x12, x121, x429000, x429001 => if x121 = true then (some false) else (if 0 ≤ x12 then (if x12 < (x7.length : Int) then (if 0 ≤ (rd x7 x12) then (if (rd x7 x12) < (x11.length : Int) then (kimberlitelaw01_SpanFewest.l0 k x1 x2 x7 x9 (x11.set ((rd x7 x12) : Int).toNat true) (wrap64 (x12 + 1)) x429000 x429001) else (none)) else (none)) else (none)) else (none))
def kimberlitelaw01_SpanFewest.l1 : Nat → List (S32) → List Bool → List Int → List Int → List Bool → Int → Int → Int → Option (Bool)
 | 0, _, _, _, _, _, _, _, _ => none
 | k + 1, x1, x2, x7, x9, x11, x13, x429000, x429001 => if x13 < (x1.length : Int) then (kimberlitelaw01_SpanFewest.l2 k x1 x2 x7 x9 x11 x13 0 0 x429000 x429001) else (if 0 ≤ (x1.length : Int) then (if ((x1.length : Int) : Int).toNat ≤ 281474976710656 then (kimberlitelaw01_SpanFewest.l3 k x1 x2 x7 x11 0 (List.replicate ((x1.length : Int) : Int).toNat false) 0 x429000 x429001) else (none)) else (none))
def kimberlitelaw01_SpanFewest.l2 : Nat → List (S32) → List Bool → List Int → List Int → List Bool → Int → Int → Int → Int → Int → Option (Bool)
 | 0, _, _, _, _, _, _, _, _, _, _ => none
 | k + 1, x1, x2, x7, x9, x11, x13, x14, x15, x429000, x429001 => if x15 < (x9.length : Int) then (if 0 ≤ x13 then (if x13 < (x1.length : Int) then (if 0 ≤ x15 then (if ((rd_T32 x1 x13).f0) ≤ (rd x9 x15) then (kimberlitelaw01_SpanFewest.j5 k x1 x2 x7 x9 x11 x13 x14 x15 (decide ((rd x9 x15) < ((rd_T32 x1 x13).f1))) x429000 x429001) else (kimberlitelaw01_SpanFewest.j5 k x1 x2 x7 x9 x11 x13 x14 x15 false x429000 x429001)) else (none)) else (none)) else (none)) else (if x14 > 1 then (some false) else (kimberlitelaw01_SpanFewest.l1 k x1 x2 x7 x9 x11 (wrap64 (x13 + 1)) x429000 x429001))
def kimberlitelaw01_SpanFewest.j5 : Nat → List (S32) → List Bool → List Int → List Int → List Bool → Int → Int → Int → Bool → Int → Int → Option (Bool)
 | 0, _, _, _, _, _, _, _, _, _, _, _ => none
 | k + 1, x1, x2, x7, x9, x11, x13, x14, x15, x161, x429000, x429001 => if x161 = true then (kimberlitelaw01_SpanFewest.l2 k x1 x2 x7 x9 x11 x13 (wrap64 (x14 + 1)) (wrap64 (x15 + 1)) x429000 x429001) else (kimberlitelaw01_SpanFewest.l2 k x1 x2 x7 x9 x11 x13 x14 (wrap64 (x15 + 1)) x429000 x429001)
def kimberlitelaw01_SpanFewest.l3 : Nat → List (S32) → List Bool → List Int → List Bool → Int → List Bool → Int → Int → Int → Option (Bool)
 | 0, _, _, _, _, _, _, _, _, _ => none
 | k + 1, x1, x2, x7, x11, x16, x17, x18, x429000, x429001 => if x18 < (x1.length : Int) then (kimberlitelaw01_SpanFewest.j7 k x1 x2 x7 x11 x16 x17 x18 (decide (x18 < (x2.length : Int))) x429000 x429001) else (kimberlitelaw01_SpanFewest.j7 k x1 x2 x7 x11 x16 x17 x18 false x429000 x429001)
def kimberlitelaw01_SpanFewest.j7 : Nat → List (S32) → List Bool → List Int → List Bool → Int → List Bool → Int → Bool → Int → Int → Option (Bool)
 | 0, _, _, _, _, _, _, _, _, _, _ => none
 | k + 1, x1, x2, x7, x11, x16, x17, x18, x178, x429000, x429001 => if x178 = true then (if 0 ≤ x18 then (if x18 < (x2.length : Int) then (if x18 < (x17.length : Int) then ((some (x17.set (x18 : Int).toNat (rdOf false x2 x18) : List Bool)).bind fun y460 => (if rdOf false x2 x18 = true then (kimberlitelaw01_SpanFewest.l3 k x1 x2 x7 x11 (wrap64 (x16 + 1)) y460 (wrap64 (x18 + 1)) x429000 x429001) else (kimberlitelaw01_SpanFewest.l3 k x1 x2 x7 x11 x16 y460 (wrap64 (x18 + 1)) x429000 x429001))) else (none)) else (none)) else (none)) else ((kimberlitelaw01_covers.f k x429000 x429001 x1 x11).bind fun t462 => (if t462 = true then (if x16 ≥ (x7.length : Int) then ((kimberlitelaw01_alive.f k).bind fun t463 => (some t463)) else ((kimberlitelaw01_covers.f k x429000 x429001 x1 x17).bind fun t464 => (if t464 = true then (some false) else ((kimberlitelaw01_alive.f k).bind fun t465 => (some t465))))) else (some false)))
end
def kimberlitelaw01_SpanFewest.f (k : Nat) (a0_0 : Int) (a0_1 : Int) (l1 : List (S32)) (l2 : List Bool) : Option (Bool) := if (l1.length : Int) > 128 then ((kimberlitelaw01_alive.f k).bind fun t429 => (some t429)) else ((span_Cover.f k a0_0 a0_1 l1).bind fun bt430 => ((span_Apart.f k a0_0 a0_1 l1).bind fun bt434 => (if bt430.2 = 0 then (if bt434.2 = 0 then (kimberlitelaw01_SpanFewest.j0 k l1 l2 bt430.1 bt434.1 ((bt434.1.length : Int) != (bt430.1.length : Int)) a0_0 a0_1) else (kimberlitelaw01_SpanFewest.j0 k l1 l2 bt430.1 bt434.1 true a0_0 a0_1)) else (if bt430.2 = bt434.2 then (if (bt430.1.length : Int) = 0 then (if (bt434.1.length : Int) = 0 then (if bt430.2 = 10 then ((kimberlitelaw01_covers.f k a0_0 a0_1 l1 ([] : List Bool)).bind fun t438 => (if t438 = true then (some false) else ((kimberlitelaw01_alive.f k).bind fun t439 => (some t439)))) else ((kimberlitelaw01_alive.f k).bind fun t440 => (some t440))) else (some false)) else (some false)) else (some false)))))
theorem kimberlitelaw01_SpanFewest.mono_l : ∀ k, (∀ y0 y1 y2 y3 y4 y5 y6, LeO (kimberlitelaw01_SpanFewest.j0 k y0 y1 y2 y3 y4 y5 y6) (kimberlitelaw01_SpanFewest.j0 (k + 1) y0 y1 y2 y3 y4 y5 y6)) ∧ (∀ y0 y1 y2 y3 y4 y5 y6 y7, LeO (kimberlitelaw01_SpanFewest.l0 k y0 y1 y2 y3 y4 y5 y6 y7) (kimberlitelaw01_SpanFewest.l0 (k + 1) y0 y1 y2 y3 y4 y5 y6 y7)) ∧ (∀ y0 y1 y2 y3 y4 y5 y6 y7 y8, LeO (kimberlitelaw01_SpanFewest.j2 k y0 y1 y2 y3 y4 y5 y6 y7 y8) (kimberlitelaw01_SpanFewest.j2 (k + 1) y0 y1 y2 y3 y4 y5 y6 y7 y8)) ∧ (∀ y0 y1 y2 y3 y4 y5 y6 y7, LeO (kimberlitelaw01_SpanFewest.l1 k y0 y1 y2 y3 y4 y5 y6 y7) (kimberlitelaw01_SpanFewest.l1 (k + 1) y0 y1 y2 y3 y4 y5 y6 y7)) ∧ (∀ y0 y1 y2 y3 y4 y5 y6 y7 y8 y9, LeO (kimberlitelaw01_SpanFewest.l2 k y0 y1 y2 y3 y4 y5 y6 y7 y8 y9) (kimberlitelaw01_SpanFewest.l2 (k + 1) y0 y1 y2 y3 y4 y5 y6 y7 y8 y9)) ∧ (∀ y0 y1 y2 y3 y4 y5 y6 y7 y8 y9 y10, LeO (kimberlitelaw01_SpanFewest.j5 k y0 y1 y2 y3 y4 y5 y6 y7 y8 y9 y10) (kimberlitelaw01_SpanFewest.j5 (k + 1) y0 y1 y2 y3 y4 y5 y6 y7 y8 y9 y10)) ∧ (∀ y0 y1 y2 y3 y4 y5 y6 y7 y8, LeO (kimberlitelaw01_SpanFewest.l3 k y0 y1 y2 y3 y4 y5 y6 y7 y8) (kimberlitelaw01_SpanFewest.l3 (k + 1) y0 y1 y2 y3 y4 y5 y6 y7 y8)) ∧ (∀ y0 y1 y2 y3 y4 y5 y6 y7 y8 y9, LeO (kimberlitelaw01_SpanFewest.j7 k y0 y1 y2 y3 y4 y5 y6 y7 y8 y9) (kimberlitelaw01_SpanFewest.j7 (k + 1) y0 y1 y2 y3 y4 y5 y6 y7 y8 y9))
 | 0 => ⟨fun _ _ _ _ _ _ _ r h => by simp [kimberlitelaw01_SpanFewest.j0] at h, fun _ _ _ _ _ _ _ _ r h => by simp [kimberlitelaw01_SpanFewest.l0] at h, fun _ _ _ _ _ _ _ _ _ r h => by simp [kimberlitelaw01_SpanFewest.j2] at h, fun _ _ _ _ _ _ _ _ r h => by simp [kimberlitelaw01_SpanFewest.l1] at h, fun _ _ _ _ _ _ _ _ _ _ r h => by simp [kimberlitelaw01_SpanFewest.l2] at h, fun _ _ _ _ _ _ _ _ _ _ _ r h => by simp [kimberlitelaw01_SpanFewest.j5] at h, fun _ _ _ _ _ _ _ _ _ r h => by simp [kimberlitelaw01_SpanFewest.l3] at h, fun _ _ _ _ _ _ _ _ _ _ r h => by simp [kimberlitelaw01_SpanFewest.j7] at h⟩
 | k + 1 => by
  obtain ⟨ih0, ih1, ih2, ih3, ih4, ih5, ih6, ih7⟩ := kimberlitelaw01_SpanFewest.mono_l k
  refine ⟨?_, ?_, ?_, ?_, ?_, ?_, ?_, ?_⟩
  · intro y0 y1 y2 y3 y4 y5 y6
    unfold kimberlitelaw01_SpanFewest.j0
    repeat' first
    | (with_reducible exact ih0 _ _ _ _ _ _ _)
    | (with_reducible exact ih1 _ _ _ _ _ _ _ _)
    | (with_reducible exact ih2 _ _ _ _ _ _ _ _ _)
    | (with_reducible exact ih3 _ _ _ _ _ _ _ _)
    | (with_reducible exact ih4 _ _ _ _ _ _ _ _ _ _)
    | (with_reducible exact ih5 _ _ _ _ _ _ _ _ _ _ _)
    | (with_reducible exact ih6 _ _ _ _ _ _ _ _ _)
    | (with_reducible exact ih7 _ _ _ _ _ _ _ _ _ _)
    | (with_reducible exact kimberlitelaw01_alive.mono _)
    | (with_reducible exact kimberlitelaw01_covers.mono _ _ _ _ _)
    | (with_reducible exact span_Apart.mono _ _ _ _)
    | (with_reducible exact span_Cover.mono _ _ _ _)
    | (with_reducible exact LeO.refl _)
    | (with_reducible exact LeO.none _)
    | (with_reducible refine LeO.ite ?_ ?_)
    | (with_reducible refine LeO.bind ?_ (fun _ => ?_))
    | exact ih0 _ _ _ _ _ _ _
    | exact ih1 _ _ _ _ _ _ _ _
    | exact ih2 _ _ _ _ _ _ _ _ _
    | exact ih3 _ _ _ _ _ _ _ _
    | exact ih4 _ _ _ _ _ _ _ _ _ _
    | exact ih5 _ _ _ _ _ _ _ _ _ _ _
    | exact ih6 _ _ _ _ _ _ _ _ _
    | exact ih7 _ _ _ _ _ _ _ _ _ _
    | exact kimberlitelaw01_alive.mono _
    | exact kimberlitelaw01_covers.mono _ _ _ _ _
    | exact span_Apart.mono _ _ _ _
    | exact span_Cover.mono _ _ _ _
    | exact LeO.none _
    | refine LeO.ite ?_ ?_
    | refine LeO.bind ?_ (fun _ => ?_)
  · intro y0 y1 y2 y3 y4 y5 y6 y7
    unfold kimberlitelaw01_SpanFewest.l0
    repeat' first
    | (with_reducible exact ih0 _ _ _ _ _ _ _)
    | (with_reducible exact ih1 _ _ _ _ _ _ _ _)
    | (with_reducible exact ih2 _ _ _ _ _ _ _ _ _)
    | (with_reducible exact ih3 _ _ _ _ _ _ _ _)
    | (with_reducible exact ih4 _ _ _ _ _ _ _ _ _ _)
    | (with_reducible exact ih5 _ _ _ _ _ _ _ _ _ _ _)
    | (with_reducible exact ih6 _ _ _ _ _ _ _ _ _)
    | (with_reducible exact ih7 _ _ _ _ _ _ _ _ _ _)
    | (with_reducible exact kimberlitelaw01_alive.mono _)
    | (with_reducible exact kimberlitelaw01_covers.mono _ _ _ _ _)
    | (with_reducible exact span_Apart.mono _ _ _ _)
    | (with_reducible exact span_Cover.mono _ _ _ _)
    | (with_reducible exact LeO.refl _)
    | (with_reducible exact LeO.none _)
    | (with_reducible refine LeO.ite ?_ ?_)
    | (with_reducible refine LeO.bind ?_ (fun _ => ?_))
    | exact ih0 _ _ _ _ _ _ _
    | exact ih1 _ _ _ _ _ _ _ _
    | exact ih2 _ _ _ _ _ _ _ _ _
    | exact ih3 _ _ _ _ _ _ _ _
    | exact ih4 _ _ _ _ _ _ _ _ _ _
    | exact ih5 _ _ _ _ _ _ _ _ _ _ _
    | exact ih6 _ _ _ _ _ _ _ _ _
    | exact ih7 _ _ _ _ _ _ _ _ _ _
    | exact kimberlitelaw01_alive.mono _
    | exact kimberlitelaw01_covers.mono _ _ _ _ _
    | exact span_Apart.mono _ _ _ _
    | exact span_Cover.mono _ _ _ _
    | exact LeO.none _
    | refine LeO.ite ?_ ?_
    | refine LeO.bind ?_ (fun _ => ?_)
  · intro y0 y1 y2 y3 y4 y5 y6 y7 y8
    unfold kimberlitelaw01_SpanFewest.j2
    repeat' first
    | (with_reducible exact ih0 _ _ _ _ _ _ _)
    | (with_reducible exact ih1 _ _ _ _ _ _ _ _)
    | (with_reducible exact ih2 _ _ _ _ _ _ _ _ _)
    | (with_reducible exact ih3 _ _ _ _ _ _ _ _)
    | (with_reducible exact ih4 _ _ _ _ _ _ _ _ _ _)
    | (with_reducible exact ih5 _ _ _ _ _ _ _ _ _ _ _)
    | (with_reducible exact ih6 _ _ _ _ _ _ _ _ _)
    | (with_reducible exact ih7 _ _ _ _ _ _ _ _ _ _)
    | (with_reducible exact kimberlitelaw01_alive.mono _)
    | (with_reducible exact kimberlitelaw01_covers.mono _ _ _ _ _)
    | (with_reducible exact span_Apart.mono _ _ _ _)
    | (with_reducible exact span_Cover.mono _ _ _ _)
    | (with_reducible exact LeO.refl _)
    | (with_reducible exact LeO.none _)
    | (with_reducible refine LeO.ite ?_ ?_)
    | (with_reducible refine LeO.bind ?_ (fun _ => ?_))
    | exact ih0 _ _ _ _ _ _ _
    | exact ih1 _ _ _ _ _ _ _ _
    | exact ih2 _ _ _ _ _ _ _ _ _
    | exact ih3 _ _ _ _ _ _ _ _
    | exact ih4 _ _ _ _ _ _ _ _ _ _
    | exact ih5 _ _ _ _ _ _ _ _ _ _ _
    | exact ih6 _ _ _ _ _ _ _ _ _
    | exact ih7 _ _ _ _ _ _ _ _ _ _
    | exact kimberlitelaw01_alive.mono _
    | exact kimberlitelaw01_covers.mono _ _ _ _ _
    | exact span_Apart.mono _ _ _ _
    | exact span_Cover.mono _ _ _ _
    | exact LeO.none _
    | refine LeO.ite ?_ ?_
    | refine LeO.bind ?_ (fun _ => ?_)
  · intro y0 y1 y2 y3 y4 y5 y6 y7
    unfold kimberlitelaw01_SpanFewest.l1
    repeat' first
    | (with_reducible exact ih0 _ _ _ _ _ _ _)
    | (with_reducible exact ih1 _ _ _ _ _ _ _ _)
    | (with_reducible exact ih2 _ _ _ _ _ _ _ _ _)
    | (with_reducible exact ih3 _ _ _ _ _ _ _ _)
    | (with_reducible exact ih4 _ _ _ _ _ _ _ _ _ _)
    | (with_reducible exact ih5 _ _ _ _ _ _ _ _ _ _ _)
    | (with_reducible exact ih6 _ _ _ _ _ _ _ _ _)
    | (with_reducible exact ih7 _ _ _ _ _ _ _ _ _ _)
    | (with_reducible exact kimberlitelaw01_alive.mono _)
    | (with_reducible exact kimberlitelaw01_covers.mono _ _ _ _ _)
    | (with_reducible exact span_Apart.mono _ _ _ _)
    | (with_reducible exact span_Cover.mono _ _ _ _)
    | (with_reducible exact LeO.refl _)
    | (with_reducible exact LeO.none _)
    | (with_reducible refine LeO.ite ?_ ?_)
    | (with_reducible refine LeO.bind ?_ (fun _ => ?_))
    | exact ih0 _ _ _ _ _ _ _
    | exact ih1 _ _ _ _ _ _ _ _
    | exact ih2 _ _ _ _ _ _ _ _ _
    | exact ih3 _ _ _ _ _ _ _ _
    | exact ih4 _ _ _ _ _ _ _ _ _ _
    | exact ih5 _ _ _ _ _ _ _ _ _ _ _
    | exact ih6 _ _ _ _ _ _ _ _ _
    | exact ih7 _ _ _ _ _ _ _ _ _ _
    | exact kimberlitelaw01_alive.mono _
    | exact kimberlitelaw01_covers.mono _ _ _ _ _
    | exact span_Apart.mono _ _ _ _
    | exact span_Cover.mono _ _ _ _
    | exact LeO.none _
    | refine LeO.ite ?_ ?_
    | refine LeO.bind ?_ (fun _ => ?_)
  · intro y0 y1 y2 y3 y4 y5 y6 y7 y8 y9
    unfold kimberlitelaw01_SpanFewest.l2
    repeat' first
    | (with_reducible exact ih0 _ _ _ _ _ _ _)
    | (with_reducible exact ih1 _ _ _ _ _ _ _ _)
    | (with_reducible exact ih2 _ _ _ _ _ _ _ _ _)
    | (with_reducible exact ih3 _ _ _ _ _ _ _ _)
    | (with_reducible exact ih4 _ _ _ _ _ _ _ _ _ _)
    | (with_reducible exact ih5 _ _ _ _ _ _ _ _ _ _ _)
    | (with_reducible exact ih6 _ _ _ _ _ _ _ _ _)
    | (with_reducible exact ih7 _ _ _ _ _ _ _ _ _ _)
    | (with_reducible exact kimberlitelaw01_alive.mono _)
    | (with_reducible exact kimberlitelaw01_covers.mono _ _ _ _ _)
    | (with_reducible exact span_Apart.mono _ _ _ _)
    | (with_reducible exact span_Cover.mono _ _ _ _)
    | (with_reducible exact LeO.refl _)
    | (with_reducible exact LeO.none _)
    | (with_reducible refine LeO.ite ?_ ?_)
    | (with_reducible refine LeO.bind ?_ (fun _ => ?_))
    | exact ih0 _ _ _ _ _ _ _
    | exact ih1 _ _ _ _ _ _ _ _
    | exact ih2 _ _ _ _ _ _ _ _ _
    | exact ih3 _ _ _ _ _ _ _ _
    | exact ih4 _ _ _ _ _ _ _ _ _ _
    | exact ih5 _ _ _ _ _ _ _ _ _ _ _
    | exact ih6 _ _ _ _ _ _ _ _ _
    | exact ih7 _ _ _ _ _ _ _ _ _ _
    | exact kimberlitelaw01_alive.mono _
    | exact kimberlitelaw01_covers.mono _ _ _ _ _
    | exact span_Apart.mono _ _ _ _
    | exact span_Cover.mono _ _ _ _
    | exact LeO.none _
    | refine LeO.ite ?_ ?_
    | refine LeO.bind ?_ (fun _ => ?_)
  · intro y0 y1 y2 y3 y4 y5 y6 y7 y8 y9 y10
    unfold kimberlitelaw01_SpanFewest.j5
    repeat' first
    | (with_reducible exact ih0 _ _ _ _ _ _ _)
    | (with_reducible exact ih1 _ _ _ _ _ _ _ _)
    | (with_reducible exact ih2 _ _ _ _ _ _ _ _ _)
    | (with_reducible exact ih3 _ _ _ _ _ _ _ _)
    | (with_reducible exact ih4 _ _ _ _ _ _ _ _ _ _)
    | (with_reducible exact ih5 _ _ _ _ _ _ _ _ _ _ _)
    | (with_reducible exact ih6 _ _ _ _ _ _ _ _ _)
    | (with_reducible exact ih7 _ _ _ _ _ _ _ _ _ _)
    | (with_reducible exact kimberlitelaw01_alive.mono _)
    | (with_reducible exact kimberlitelaw01_covers.mono _ _ _ _ _)
    | (with_reducible exact span_Apart.mono _ _ _ _)
    | (with_reducible exact span_Cover.mono _ _ _ _)
    | (with_reducible exact LeO.refl _)
    | (with_reducible exact LeO.none _)
    | (with_reducible refine LeO.ite ?_ ?_)
    | (with_reducible refine LeO.bind ?_ (fun _ => ?_))
    | exact ih0 _ _ _ _ _ _ _
    | exact ih1 _ _ _ _ _ _ _ _
    | exact ih2 _ _ _ _ _ _ _ _ _
    | exact ih3 _ _ _ _ _ _ _ _
    | exact ih4 _ _ _ _ _ _ _ _ _ _
    | exact ih5 _ _ _ _ _ _ _ _ _ _ _
    | exact ih6 _ _ _ _ _ _ _ _ _
    | exact ih7 _ _ _ _ _ _ _ _ _ _
    | exact kimberlitelaw01_alive.mono _
    | exact kimberlitelaw01_covers.mono _ _ _ _ _
    | exact span_Apart.mono _ _ _ _
    | exact span_Cover.mono _ _ _ _
    | exact LeO.none _
    | refine LeO.ite ?_ ?_
    | refine LeO.bind ?_ (fun _ => ?_)
  · intro y0 y1 y2 y3 y4 y5 y6 y7 y8
    unfold kimberlitelaw01_SpanFewest.l3
    repeat' first
    | (with_reducible exact ih0 _ _ _ _ _ _ _)
    | (with_reducible exact ih1 _ _ _ _ _ _ _ _)
    | (with_reducible exact ih2 _ _ _ _ _ _ _ _ _)
    | (with_reducible exact ih3 _ _ _ _ _ _ _ _)
    | (with_reducible exact ih4 _ _ _ _ _ _ _ _ _ _)
    | (with_reducible exact ih5 _ _ _ _ _ _ _ _ _ _ _)
    | (with_reducible exact ih6 _ _ _ _ _ _ _ _ _)
    | (with_reducible exact ih7 _ _ _ _ _ _ _ _ _ _)
    | (with_reducible exact kimberlitelaw01_alive.mono _)
    | (with_reducible exact kimberlitelaw01_covers.mono _ _ _ _ _)
    | (with_reducible exact span_Apart.mono _ _ _ _)
    | (with_reducible exact span_Cover.mono _ _ _ _)
    | (with_reducible exact LeO.refl _)
    | (with_reducible exact LeO.none _)
    | (with_reducible refine LeO.ite ?_ ?_)
    | (with_reducible refine LeO.bind ?_ (fun _ => ?_))
    | exact ih0 _ _ _ _ _ _ _
    | exact ih1 _ _ _ _ _ _ _ _
    | exact ih2 _ _ _ _ _ _ _ _ _
    | exact ih3 _ _ _ _ _ _ _ _
    | exact ih4 _ _ _ _ _ _ _ _ _ _
    | exact ih5 _ _ _ _ _ _ _ _ _ _ _
    | exact ih6 _ _ _ _ _ _ _ _ _
    | exact ih7 _ _ _ _ _ _ _ _ _ _
    | exact kimberlitelaw01_alive.mono _
    | exact kimberlitelaw01_covers.mono _ _ _ _ _
    | exact span_Apart.mono _ _ _ _
    | exact span_Cover.mono _ _ _ _
    | exact LeO.none _
    | refine LeO.ite ?_ ?_
    | refine LeO.bind ?_ (fun _ => ?_)
  · intro y0 y1 y2 y3 y4 y5 y6 y7 y8 y9
    unfold kimberlitelaw01_SpanFewest.j7
    repeat' first
    | (with_reducible exact ih0 _ _ _ _ _ _ _)
    | (with_reducible exact ih1 _ _ _ _ _ _ _ _)
    | (with_reducible exact ih2 _ _ _ _ _ _ _ _ _)
    | (with_reducible exact ih3 _ _ _ _ _ _ _ _)
    | (with_reducible exact ih4 _ _ _ _ _ _ _ _ _ _)
    | (with_reducible exact ih5 _ _ _ _ _ _ _ _ _ _ _)
    | (with_reducible exact ih6 _ _ _ _ _ _ _ _ _)
    | (with_reducible exact ih7 _ _ _ _ _ _ _ _ _ _)
    | (with_reducible exact kimberlitelaw01_alive.mono _)
    | (with_reducible exact kimberlitelaw01_covers.mono _ _ _ _ _)
    | (with_reducible exact span_Apart.mono _ _ _ _)
    | (with_reducible exact span_Cover.mono _ _ _ _)
    | (with_reducible exact LeO.refl _)
    | (with_reducible exact LeO.none _)
    | (with_reducible refine LeO.ite ?_ ?_)
    | (with_reducible refine LeO.bind ?_ (fun _ => ?_))
    | exact ih0 _ _ _ _ _ _ _
    | exact ih1 _ _ _ _ _ _ _ _
    | exact ih2 _ _ _ _ _ _ _ _ _
    | exact ih3 _ _ _ _ _ _ _ _
    | exact ih4 _ _ _ _ _ _ _ _ _ _
    | exact ih5 _ _ _ _ _ _ _ _ _ _ _
    | exact ih6 _ _ _ _ _ _ _ _ _
    | exact ih7 _ _ _ _ _ _ _ _ _ _
    | exact kimberlitelaw01_alive.mono _
    | exact kimberlitelaw01_covers.mono _ _ _ _ _
    | exact span_Apart.mono _ _ _ _
    | exact span_Cover.mono _ _ _ _
    | exact LeO.none _
    | refine LeO.ite ?_ ?_
    | refine LeO.bind ?_ (fun _ => ?_)
theorem kimberlitelaw01_SpanFewest.mono : ∀ a0 a1 a2 a3 k, LeO (kimberlitelaw01_SpanFewest.f k a0 a1 a2 a3) (kimberlitelaw01_SpanFewest.f (k + 1) a0 a1 a2 a3) := by
 intro a0 a1 a2 a3 k
 obtain ⟨ih0, ih1, ih2, ih3, ih4, ih5, ih6, ih7⟩ := kimberlitelaw01_SpanFewest.mono_l k
 unfold kimberlitelaw01_SpanFewest.f
 repeat' first
  | (with_reducible exact ih0 _ _ _ _ _ _ _)
  | (with_reducible exact ih1 _ _ _ _ _ _ _ _)
  | (with_reducible exact ih2 _ _ _ _ _ _ _ _ _)
  | (with_reducible exact ih3 _ _ _ _ _ _ _ _)
  | (with_reducible exact ih4 _ _ _ _ _ _ _ _ _ _)
  | (with_reducible exact ih5 _ _ _ _ _ _ _ _ _ _ _)
  | (with_reducible exact ih6 _ _ _ _ _ _ _ _ _)
  | (with_reducible exact ih7 _ _ _ _ _ _ _ _ _ _)
  | (with_reducible exact kimberlitelaw01_alive.mono _)
  | (with_reducible exact kimberlitelaw01_covers.mono _ _ _ _ _)
  | (with_reducible exact span_Apart.mono _ _ _ _)
  | (with_reducible exact span_Cover.mono _ _ _ _)
  | (with_reducible exact LeO.refl _)
  | (with_reducible exact LeO.none _)
  | (with_reducible refine LeO.ite ?_ ?_)
  | (with_reducible refine LeO.bind ?_ (fun _ => ?_))
  | exact ih0 _ _ _ _ _ _ _
  | exact ih1 _ _ _ _ _ _ _ _
  | exact ih2 _ _ _ _ _ _ _ _ _
  | exact ih3 _ _ _ _ _ _ _ _
  | exact ih4 _ _ _ _ _ _ _ _ _ _
  | exact ih5 _ _ _ _ _ _ _ _ _ _ _
  | exact ih6 _ _ _ _ _ _ _ _ _
  | exact ih7 _ _ _ _ _ _ _ _ _ _
  | exact kimberlitelaw01_alive.mono _
  | exact kimberlitelaw01_covers.mono _ _ _ _ _
  | exact span_Apart.mono _ _ _ _
  | exact span_Cover.mono _ _ _ _
  | exact LeO.none _
  | refine LeO.ite ?_ ?_
  | refine LeO.bind ?_ (fun _ => ?_)
set_option maxHeartbeats 8000000 in
set_option maxRecDepth 100000 in
theorem kimberlitelaw01_SpanFewest.calls (k : Nat) (a0_0 : Int) (a0_1 : Int) (A1 : Option Addr) (c1 : Nat) (l1 : List (S32)) (A2 : Option Addr) (c2 : Nat) (l2 : List Bool) (r : Bool) (w : World) (hr1 : Kd.C k32 w A1 l1.length l1) (hc1 : l1.length ≤ c1) (hr2 : Kd.C Kd.bool w A2 l2.length l2) (hc2 : l2.length ≤ c2) (h : kimberlitelaw01_SpanFewest.f k a0_0 a0_1 l1 l2 = some r) :
 Calls Try.prog 5 #[.agg #[.int .i64 a0_0, .int .i64 a0_1], .slice A1 l1.length c1, .slice A2 l2.length c2] w fun e w' => e = .returned (.bool r) ∧ Below w.heap.size w w' := by
 have hu32 := Try.underlying32
 have HR1 := Aside0.mk hr1
 have HC1 := Aside0.mk hc1
 clear hr1 hc1
 have HR2 := Aside0.mk hr2
 have HC2 := Aside0.mk hc2
 clear hr2 hc2
 have HB := Aside0.mk (Below.refl w.heap.size w)
 have H : (if (l1.length : Int) > 128 then ((kimberlitelaw01_alive.f k).bind fun t429 => (some t429)) else ((span_Cover.f k a0_0 a0_1 l1).bind fun bt430 => ((span_Apart.f k a0_0 a0_1 l1).bind fun bt434 => (if bt430.2 = 0 then (if bt434.2 = 0 then (kimberlitelaw01_SpanFewest.j0 k l1 l2 bt430.1 bt434.1 ((bt434.1.length : Int) != (bt430.1.length : Int)) a0_0 a0_1) else (kimberlitelaw01_SpanFewest.j0 k l1 l2 bt430.1 bt434.1 true a0_0 a0_1)) else (if bt430.2 = bt434.2 then (if (bt430.1.length : Int) = 0 then (if (bt434.1.length : Int) = 0 then (if bt430.2 = 10 then ((kimberlitelaw01_covers.f k a0_0 a0_1 l1 ([] : List Bool)).bind fun t438 => (if t438 = true then (some false) else ((kimberlitelaw01_alive.f k).bind fun t439 => (some t439)))) else ((kimberlitelaw01_alive.f k).bind fun t440 => (some t440))) else (some false)) else (some false)) else (some false)))))) = some r := h
 clear h
 by_cases c4 : (l1.length : Int) > 128
 · rw [if_pos c4] at H
   have c4b0 : decide (128 < (l1.length : Int)) = true := decide_eq_true c4
   have c4b1 : decide (128 < l1.length) = true := decide_eq_true (by omega)
   clear c4
   replace H := Option.bind_eq_some_iff.mp H
   obtain ⟨t429, A50, H⟩ := H
   replace H : (some t429) = some r := H
   have A5 := Aside0.mk A50
   clear A50
   obtain rfl := Option.some.inj H
   go_enter Try.func5, Try.ntmps5
   go_wp2_with (first | ((with_reducible refine gate_dst (N := 3) rfl ?_); (try (refine gate_guard (by rfl) ?_; dsimp only)); refine box_event ?hg (N := 3) ?hd (cs := #[.int .i64 a0_0, .int .i64 a0_1]) (t := 32) ?hr ?_; (case hd => rfl); (case hg => rfl); (case hr => first | (go_simp; done) | (go_simp; rfl)); intro gb428 hg w6 hbox hb; have n0_ := Aside0.mk (below_step (by repeat (first | (with_reducible first | exact HB.out | apply below_alloc | apply pw_below_drewN | apply below_drew1) | exact HB.out)) hb); have n1_ := Aside0.mk (hbox); have n2_ := Aside0.mk ((by rw [hg]; exact (below_size (by repeat (first | (with_reducible first | exact HB.out | apply below_alloc | apply pw_below_drewN | apply below_drew1) | exact HB.out))) : w.heap.size ≤ gb428)); have n3_ := Aside0.mk ((by rw [hg]; exact (below_size (by repeat (first | (with_reducible first | exact HB.out | apply below_alloc | apply pw_below_drewN | apply below_drew1) | exact HB.out))) : w.heap.size ≤ gb428)); clear HB; have HB := n0_; have BK428 := n1_; have GW428 := n2_; have GE428 := n3_; clear n0_ n1_ n2_ n3_; clear hb hbox hg) | (go_at_call 16; (with_reducible refine (kimberlitelaw01_alive.calls k  t429 _ A5.out).mono ?_); rintro e w7 ⟨rfl, hb⟩; have n0_ := Aside0.mk (blk_below (g := gb428) (o := .cells #[.int .i64 a0_0, .int .i64 a0_1] 32 (0, 0)) (by (with_reducible repeat (first | refine blk_drewN ?_ _ | refine blk_drew ?_ | refine blk_alloc ?_ _)); exact BK428.out) hb); have n1_ := Aside0.mk (below_step (by repeat (first | (with_reducible first | exact HB.out | apply below_alloc | apply pw_below_drewN | apply below_drew1 | refine below_set ?_ GE428.out) | exact HB.out)) hb); clear BK428; clear HB; have BK428 := n0_; have HB := n1_; clear n0_ n1_; (try clear hb); (try clear hb2); (try clear hk); (try clear hi)))
   go_ret
   exact ⟨by first | rfl | (simp [errW_none, errW_some] <;> rfl) | (simp [*, errW_none, errW_some] <;> rfl), by repeat (first | (with_reducible first | exact HB.out | apply below_alloc | apply pw_below_drewN | apply below_drew1 | refine below_set ?_ GE428.out) | exact HB.out)⟩
 · rw [if_neg c4] at H
   have c4b0 : decide (128 < (l1.length : Int)) = false := decide_eq_false c4
   have c4b1 : decide (128 < l1.length) = false := decide_eq_false (by omega)
   clear c4
   replace H := Option.bind_eq_some_iff.mp H
   obtain ⟨⟨t430, t433⟩, A80, H⟩ := H
   replace H : ((span_Apart.f k a0_0 a0_1 l1).bind fun bt434 => (if t433 = 0 then (if bt434.2 = 0 then (kimberlitelaw01_SpanFewest.j0 k l1 l2 t430 bt434.1 ((bt434.1.length : Int) != (t430.length : Int)) a0_0 a0_1) else (kimberlitelaw01_SpanFewest.j0 k l1 l2 t430 bt434.1 true a0_0 a0_1)) else (if t433 = bt434.2 then (if (t430.length : Int) = 0 then (if (bt434.1.length : Int) = 0 then (if t433 = 10 then ((kimberlitelaw01_covers.f k a0_0 a0_1 l1 ([] : List Bool)).bind fun t438 => (if t438 = true then (some false) else ((kimberlitelaw01_alive.f k).bind fun t439 => (some t439)))) else ((kimberlitelaw01_alive.f k).bind fun t440 => (some t440))) else (some false)) else (some false)) else (some false)))) = some r := H
   have A8 := Aside0.mk A80
   clear A80
   replace H := Option.bind_eq_some_iff.mp H
   obtain ⟨⟨t434, t437⟩, A90, H⟩ := H
   replace H : (if t433 = 0 then (if t437 = 0 then (kimberlitelaw01_SpanFewest.j0 k l1 l2 t430 t434 ((t434.length : Int) != (t430.length : Int)) a0_0 a0_1) else (kimberlitelaw01_SpanFewest.j0 k l1 l2 t430 t434 true a0_0 a0_1)) else (if t433 = t437 then (if (t430.length : Int) = 0 then (if (t434.length : Int) = 0 then (if t433 = 10 then ((kimberlitelaw01_covers.f k a0_0 a0_1 l1 ([] : List Bool)).bind fun t438 => (if t438 = true then (some false) else ((kimberlitelaw01_alive.f k).bind fun t439 => (some t439)))) else ((kimberlitelaw01_alive.f k).bind fun t440 => (some t440))) else (some false)) else (some false)) else (some false))) = some r := H
   have A9 := Aside0.mk A90
   clear A90
   by_cases c10 : t433 = 0
   · rw [if_pos c10] at H
     have c10b0 : (t433 == 0) = true := beq_iff_eq.mpr c10
     have c10b1 : (t433 != 0) = false := bne_eq_false_iff_eq.mpr c10
     clear c10
     have HC11 := Aside0.mk H
     clear H
     go_enter Try.func5, Try.ntmps5
     go_upto_region 7 with (first | ((with_reducible refine gate_dst (N := 3) rfl ?_); (try (refine gate_guard (by rfl) ?_; dsimp only)); refine box_event ?hg (N := 3) ?hd (cs := #[.int .i64 a0_0, .int .i64 a0_1]) (t := 32) ?hr ?_; (case hd => rfl); (case hg => rfl); (case hr => first | (go_simp; done) | (go_simp; rfl)); intro gb428 hg w12 hbox hb; have n0_ := Aside0.mk (below_step (by repeat (first | (with_reducible first | exact HB.out | apply below_alloc | apply pw_below_drewN | apply below_drew1) | exact HB.out)) hb); have n1_ := Aside0.mk (hbox); have n2_ := Aside0.mk ((by rw [hg]; exact (below_size (by repeat (first | (with_reducible first | exact HB.out | apply below_alloc | apply pw_below_drewN | apply below_drew1) | exact HB.out))) : w.heap.size ≤ gb428)); have n3_ := Aside0.mk ((by rw [hg]; exact (below_size (by repeat (first | (with_reducible first | exact HB.out | apply below_alloc | apply pw_below_drewN | apply below_drew1) | exact HB.out))) : w.heap.size ≤ gb428)); clear HB; have HB := n0_; have BK428 := n1_; have GW428 := n2_; have GE428 := n3_; clear n0_ n1_ n2_ n3_; clear hb hbox hg; have hcz13_0 : w12.cell? ⟨gb428, 0, none⟩ = some (.int .i64 a0_0) := (blk_cell BK428.out 0).trans rfl; have hcz13_1 : w12.cell? ⟨gb428, 1, none⟩ = some (.int .i64 a0_1) := (blk_cell BK428.out 1).trans rfl; have hfz13_0 := blk_frozen BK428.out 0; have hfz13_1 := blk_frozen BK428.out 1) | (go_at_call 25; (with_reducible refine (span_Cover.calls k a0_0 a0_1 _ _ l1 t430 t433 _ ?side1 ?side2 A8.out).mono ?_); (case side1 => repeat (first | exact (Kd.C_below HR1.out HB.out) | (with_reducible refine Kd.C_alloc ?_ _) | (with_reducible refine Kd.C_drewN ?_ _) | (with_reducible refine Kd.C_drew ?_))); (case side2 => exact HC1.out); rintro e w14 ⟨v431, rfl, ho0, hb⟩; have n0_ := Aside0.mk (Kd.R_lower ho0 (below_size (by repeat (first | (with_reducible first | exact HB.out | apply below_alloc | apply pw_below_drewN | apply below_drew1 | refine below_set ?_ GE428.out) | exact HB.out)))); have n1_ := Aside0.mk (blk_below (g := gb428) (o := .cells #[.int .i64 a0_0, .int .i64 a0_1] 32 (0, 0)) (by (with_reducible repeat (first | refine blk_drewN ?_ _ | refine blk_drew ?_ | refine blk_alloc ?_ _)); exact BK428.out) hb); have n2_ := Aside0.mk (below_step (by repeat (first | (with_reducible first | exact HB.out | apply below_alloc | apply pw_below_drewN | apply below_drew1 | refine below_set ?_ GE428.out) | exact HB.out)) hb); clear BK428; clear HB; have HO432 := n0_; have BK428 := n1_; have HB := n2_; clear n0_ n1_ n2_; (try clear hb); (try clear hb2); (try clear hk); (try clear hi); (try clear ho0); have hcz15_0 : w14.cell? ⟨gb428, 0, none⟩ = some (.int .i64 a0_0) := (blk_cell BK428.out 0).trans rfl; have hcz15_1 : w14.cell? ⟨gb428, 1, none⟩ = some (.int .i64 a0_1) := (blk_cell BK428.out 1).trans rfl; have hfz15_0 := blk_frozen BK428.out 0; have hfz15_1 := blk_frozen BK428.out 1) | (go_at_call 26; (with_reducible refine (span_Apart.calls k a0_0 a0_1 _ _ l1 t434 t437 _ ?side1 ?side2 A9.out).mono ?_); (case side1 => repeat (first | exact (Kd.C_below HR1.out HB.out) | (with_reducible refine Kd.C_alloc ?_ _) | (with_reducible refine Kd.C_drewN ?_ _) | (with_reducible refine Kd.C_drew ?_))); (case side2 => exact HC1.out); rintro e w16 ⟨v435, rfl, ho0, hb⟩; have n0_ := Aside0.mk (Kd.R_elder' (by (with_reducible repeat (first | apply Kd.R_alloc | apply Kd.R_drewN | apply Kd.R_drew)); exact HO432.out) (Kd.R_base ho0) hb); have n1_ := Aside0.mk (Kd.R_lower (Kd.R_new' ho0 (Kd.R_lt (by (with_reducible repeat (first | apply Kd.R_alloc | apply Kd.R_drewN | apply Kd.R_drew)); exact HO432.out))) (below_size (by repeat (first | (with_reducible first | exact HB.out | apply below_alloc | apply pw_below_drewN | apply below_drew1 | refine below_set ?_ GE428.out) | exact HB.out)))); have n2_ := Aside0.mk (blk_below (g := gb428) (o := .cells #[.int .i64 a0_0, .int .i64 a0_1] 32 (0, 0)) (by (with_reducible repeat (first | refine blk_drewN ?_ _ | refine blk_drew ?_ | refine blk_alloc ?_ _)); exact BK428.out) hb); have n3_ := Aside0.mk (below_step (by repeat (first | (with_reducible first | exact HB.out | apply below_alloc | apply pw_below_drewN | apply below_drew1 | refine below_set ?_ GE428.out) | exact HB.out)) hb); clear HO432; clear BK428; clear HB; have HO432 := n0_; have HO436 := n1_; have BK428 := n2_; have HB := n3_; clear n0_ n1_ n2_ n3_; (try clear hb); (try clear hb2); (try clear hk); (try clear hi); (try clear ho0)))
     (try simp only [Act.put, List.setIfInBounds_toArray, List.set_cons_zero, List.set_cons_succ])
     go_cut [71] (fun v71 wc => ∃ (kq : Nat) (x71_10 : Bool), v71 = .bool x71_10 ∧ Aside0 (kimberlitelaw01_SpanFewest.j0 kq l1 l2 t430 t434 x71_10 a0_0 a0_1 = some r) ∧ Aside0 (kq ≤ k) ∧ Aside0 (Kd.R (Kd.int .i64) 3 wc w.heap.size (fun k_ => some k_ ≠ (v435 : Value).ownBlock) v431 t430) ∧ Aside0 (Kd.R (Kd.int .i64) 3 wc w.heap.size (fun k_ => some k_ ≠ (v431 : Value).ownBlock) v435 t434) ∧ Aside0 (wc.heap[gb428]? = some (.cells #[.int .i64 a0_0, .int .i64 a0_1] 32 (0, 0))) ∧ Aside0 (Below w.heap.size w wc))
     case first =>
      have H := HC11.out
      clear HC11
      by_cases c17 : t437 = 0
      · rw [if_pos c17] at H
        have c17b0 : (t437 == 0) = true := beq_iff_eq.mpr c17
        have c17b1 : (t437 != 0) = false := bne_eq_false_iff_eq.mpr c17
        clear c17
        (first | rw [c17b0] | (simp only [i64_w, i32_w]; rw [c17b0]) | skip)
        have H' := Aside0.mk H
        clear H
        obtain ⟨Ao18, co18, eo18⟩ := Kd.R_slice HO436.out
        subst eo18
        obtain ⟨Ao19, co19, eo19⟩ := Kd.R_slice HO432.out
        subst eo19
        go_wp2
        go_meet
        case rel => exact ⟨_, (((t434.length : Int) != (t430.length : Int))), (by first | rfl | (simp; done) | (simp [*]; done)), H', ⟨by first | omega | exact Nat.le_refl _⟩, ⟨by (with_reducible repeat (first | apply Kd.R_alloc | apply Kd.R_drewN | apply Kd.R_drew)); exact Kd.R_mono HO432.out (fun _ hk => hk.2)⟩, ⟨by (with_reducible repeat (first | apply Kd.R_alloc | apply Kd.R_drewN | apply Kd.R_drew)); exact Kd.R_mono HO436.out (fun _ hk => hk.2)⟩, ⟨by (with_reducible repeat (first | refine blk_drewN ?_ _ | refine blk_drew ?_ | refine blk_alloc ?_ _)); exact BK428.out⟩, ⟨by repeat (first | (with_reducible first | exact HB.out | apply below_alloc | apply pw_below_drewN | apply below_drew1 | refine below_set ?_ GE428.out) | exact HB.out)⟩⟩
      · rw [if_neg c17] at H
        have c17b0 : (t437 == 0) = false := beq_eq_false_iff_ne.mpr c17
        have c17b1 : (t437 != 0) = true := bne_iff_ne.mpr c17
        (first | rw [c17b0] | (simp only [i64_w, i32_w]; rw [c17b0]) | skip)
        have H' := Aside0.mk H
        clear H
        go_wp2
        go_meet
        case rel => exact ⟨_, (true), (by first | rfl | (simp; done) | (simp [*]; done)), H', ⟨by first | omega | exact Nat.le_refl _⟩, ⟨by (with_reducible repeat (first | apply Kd.R_alloc | apply Kd.R_drewN | apply Kd.R_drew)); exact Kd.R_mono HO432.out (fun _ hk => hk.2)⟩, ⟨by (with_reducible repeat (first | apply Kd.R_alloc | apply Kd.R_drewN | apply Kd.R_drew)); exact Kd.R_mono HO436.out (fun _ hk => hk.2)⟩, ⟨by (with_reducible repeat (first | refine blk_drewN ?_ _ | refine blk_drew ?_ | refine blk_alloc ?_ _)); exact BK428.out⟩, ⟨by repeat (first | (with_reducible first | exact HB.out | apply below_alloc | apply pw_below_drewN | apply below_drew1 | refine below_set ?_ GE428.out) | exact HB.out)⟩⟩
     case rest =>
      clear HC11
      try clear c1
      try clear c2
      try clear p2
      try clear c4
      try clear c4b0
      try clear c4b1
      try clear c5
      try clear c10
      try clear c10b0
      try clear c10b1
      try clear c17
      try clear c17b0
      try clear c17b1
      try clear hcz13_0
      try clear hcz13_1
      try clear hcz15_0
      try clear hcz15_1
      try clear hfz13_0
      try clear hfz13_1
      try clear hfz15_0
      try clear hfz15_1
      obtain ⟨kq, x71_10, rfl, HA, HJ10, HO_7, HO_9, BK428, HB⟩ := hcut
      cases kq with
      | zero => exact absurd HA.out (by simp [kimberlitelaw01_SpanFewest.j0])
      | succ kj10 =>
       have H := HA.out
       clear HA
       simp only [kimberlitelaw01_SpanFewest.j0] at H
       by_cases c20 : x71_10 = true
       · subst c20
         have H1 : (some false) = some r := by rw [if_pos rfl] at H; exact H
         clear H
         have H := H1
         clear H1
         obtain rfl := Option.some.inj H
         go_wp2
         go_ret
         exact ⟨by first | rfl | (simp [errW_none, errW_some] <;> rfl) | (simp [*, errW_none, errW_some] <;> rfl), by repeat (first | (with_reducible first | exact HB.out | apply below_alloc | apply pw_below_drewN | apply below_drew1 | refine below_set ?_ GE428.out) | exact HB.out)⟩
       · replace c20 := Bool.eq_false_iff.mpr c20
         subst c20
         have H1 : (if 0 ≤ (l1.length : Int) then (if ((l1.length : Int) : Int).toNat ≤ 281474976710656 then (kimberlitelaw01_SpanFewest.l0 kj10 l1 l2 t430 t434 (List.replicate ((l1.length : Int) : Int).toNat false) 0 a0_0 a0_1) else (none)) else (none)) = some r := by rw [if_neg (show ¬ (false = true) by decide)] at H; exact H
         clear H
         have H := H1
         clear H1
         by_cases c21 : 0 ≤ (l1.length : Int)
         · rw [if_pos c21] at H
           have c21b0 := eq_true c21
           have c21b1 : decide (0 ≤ (l1.length : Int)) = true := decide_eq_true c21
           clear c21
           by_cases c22 : ((l1.length : Int) : Int).toNat ≤ 281474976710656
           · rw [if_pos c22] at H
             have c22b0 := eq_true c22
             have c22b1 : decide (((l1.length : Int) : Int).toNat ≤ 281474976710656) = true := decide_eq_true c22
             clear c22
             obtain ⟨y441, hy441⟩ : ∃ y_ : List Bool, y_ = (List.replicate ((l1.length : Int) : Int).toNat false) := ⟨_, rfl⟩
             replace H : (kimberlitelaw01_SpanFewest.l0 kj10 l1 l2 t430 t434 y441 0 a0_0 a0_1) = some r := by first | (rw [hy441]; with_reducible exact H) | (have H2_ := (Option.bind_some _ _).symm.trans H; rw [hy441]; with_reducible exact H2_) | (have H2_ := (Option.bind_some _ _).symm.trans H; with_reducible exact H2_) | with_reducible exact H | (rw [hy441]; exact H) | exact H
             have Ny441 := Aside0.mk hy441
             clear hy441
             have H' := Aside0.mk H
             clear H
             go_wp2_with (first | ((with_reducible refine gate_dst (N := 74) rfl ?_); (try (refine gate_guard (by rfl) ?_; dsimp only)); refine Kd.R_make Kd.bool _ 4 rfl (N := 74) rfl 40 _ _ rfl (l1.length : Int) rfl rfl Try.underlying40 (.bool false) 1 info4 rfl (by decide) (by omega) false (ok := fun _ => True) (okp := fun _ => True) rfl (fun _ hk => hk) trivial (of_decide_eq_true (by first | (with_reducible assumption) | assumption)) (Nat.le_trans (Nat.mul_le_mul_right _ (of_decide_eq_true (by first | (with_reducible assumption) | assumption) : (l1.length : Int).toNat ≤ 281474976710656)) (by omega)) (Below.refl _ _) (Nat.le_refl _) ?_; intro v442 w23 ho24 hb hg_ hnew_; clear hg_ hnew_; (first | rw [← Ny441.out] at ho24 | (simp only [Int.reduceToNat] at ho24; rw [← Ny441.out] at ho24)); have n0_ := Aside0.mk (Kd.R_below (by (with_reducible repeat (first | apply Kd.R_alloc | apply Kd.R_drewN | apply Kd.R_drew)); exact HO_7.out) hb); have n1_ := Aside0.mk (Kd.R_below (by (with_reducible repeat (first | apply Kd.R_alloc | apply Kd.R_drewN | apply Kd.R_drew)); exact HO_9.out) hb); have n2_ := Aside0.mk (Kd.R_lower ho24 (below_size (by repeat (first | (with_reducible first | exact HB.out | apply below_alloc | apply pw_below_drewN | apply below_drew1 | refine below_set ?_ GE428.out) | exact HB.out)))); have n3_ := Aside0.mk (blk_below (g := gb428) (o := .cells #[.int .i64 a0_0, .int .i64 a0_1] 32 (0, 0)) (by (with_reducible repeat (first | refine blk_drewN ?_ _ | refine blk_drew ?_ | refine blk_alloc ?_ _)); exact BK428.out) hb); have n4_ := Aside0.mk (below_step (by repeat (first | (with_reducible first | exact HB.out | apply below_alloc | apply pw_below_drewN | apply below_drew1 | refine below_set ?_ GE428.out) | exact HB.out)) hb); clear HO_7; clear HO_9; clear BK428; clear HB; have HO_7 := n0_; have HO_9 := n1_; have HO443 := n2_; have BK428 := n3_; have HB := n4_; clear n0_ n1_ n2_ n3_ n4_; clear hb ho24))
             go_loopg [12] kj10 (fun kq v12 w' => ∃ (x11_2 : List Bool) (x12_2 : Int), v12 = .int .i64 x12_2 ∧ Aside0 (kimberlitelaw01_SpanFewest.l0 kq l1 l2 t430 t434 x11_2 x12_2 a0_0 a0_1 = some r) ∧ Aside0 (kq ≤ kj10) ∧ Aside0 (Kd.R (Kd.int .i64) 3 w' w.heap.size (fun k_ => some k_ ≠ (v435 : Value).ownBlock) v431 t430) ∧ Aside0 (Kd.R (Kd.int .i64) 3 w' w.heap.size (fun k_ => some k_ ≠ (v431 : Value).ownBlock) v435 t434) ∧ Aside0 (Kd.R Kd.bool 4 w' w.heap.size (fun _ => True) v442 x11_2) ∧ Aside0 (w'.heap[gb428]? = some (.cells #[.int .i64 a0_0, .int .i64 a0_1] 32 (0, 0))) ∧ Aside0 (Below w.heap.size w w'))
             case atStart => exact ⟨(y441), (0), (by first | rfl | (simp; done) | (simp [*]; done)), H', ⟨Nat.le_refl _⟩, ⟨by (with_reducible repeat (first | apply Kd.R_alloc | apply Kd.R_drewN | apply Kd.R_drew)); exact HO_7.out⟩, ⟨by (with_reducible repeat (first | apply Kd.R_alloc | apply Kd.R_drewN | apply Kd.R_drew)); exact HO_9.out⟩, ⟨by (with_reducible repeat (first | apply Kd.R_alloc | apply Kd.R_drewN | apply Kd.R_drew)); exact HO443.out⟩, ⟨by (with_reducible repeat (first | refine blk_drewN ?_ _ | refine blk_drew ?_ | refine blk_alloc ?_ _)); exact BK428.out⟩, ⟨by repeat (first | (with_reducible first | exact HB.out | apply below_alloc | apply pw_below_drewN | apply below_drew1 | refine below_set ?_ GE428.out) | exact HB.out)⟩⟩
             case round =>
              clear H'
              try clear c1
              try clear c2
              try clear p2
              try clear c4
              try clear c4b0
              try clear c4b1
              try clear c5
              try clear c10
              try clear c10b0
              try clear c10b1
              try clear c17
              try clear c17b0
              try clear c17b1
              try clear c20
              try clear c21
              try clear c21b0
              try clear c21b1
              try clear c22
              try clear c22b0
              try clear c22b1
              try clear hcz13_0
              try clear hcz13_1
              try clear hcz15_0
              try clear hcz15_1
              try clear hfz13_0
              try clear hfz13_1
              try clear hfz15_0
              try clear hfz15_1
              try clear p2
              obtain ⟨x11_2, x12_2, rfl, HA, HK2, HO_7, HO_9, HO_11, BK428, HB⟩ := hrel
              cases gk with
              | zero => exact absurd HA.out (by simp [kimberlitelaw01_SpanFewest.l0])
              | succ k2 =>
               have H := HA.out
               clear HA
               simp only [kimberlitelaw01_SpanFewest.l0] at H
               by_cases c25 : x12_2 < (t430.length : Int)
               · rw [if_pos c25] at H
                 have c25b0 : decide (x12_2 < (t430.length : Int)) = true := decide_eq_true c25
                 clear c25
                 have HC26 := Aside0.mk H
                 clear H
                 obtain ⟨Ao27, co27, eo27⟩ := Kd.R_slice HO_7.out
                 subst eo27
                 go_upto_region 13 with (fail)
                 go_cut [121] (fun v121 wc => ∃ (kq : Nat) (x121_25 : Bool), v121 = .bool x121_25 ∧ Aside0 (kimberlitelaw01_SpanFewest.j2 kq l1 l2 t430 t434 x11_2 x12_2 x121_25 a0_0 a0_1 = some r) ∧ Aside0 (kq ≤ k2) ∧ Aside0 (Kd.R (Kd.int .i64) 3 wc w.heap.size (fun k_ => some k_ ≠ (v435 : Value).ownBlock) (.slice Ao27 t430.length co27) t430) ∧ Aside0 (Kd.R (Kd.int .i64) 3 wc w.heap.size (fun k_ => some k_ ≠ ((.slice Ao27 t430.length co27) : Value).ownBlock) v435 t434) ∧ Aside0 (Kd.R Kd.bool 4 wc w.heap.size (fun _ => True) v442 x11_2) ∧ Aside0 (wc.heap[gb428]? = some (.cells #[.int .i64 a0_0, .int .i64 a0_1] 32 (0, 0))) ∧ Aside0 (Below w.heap.size w wc))
                 case first =>
                  have H := HC26.out
                  clear HC26
                  by_cases c28 : 0 ≤ x12_2
                  · rw [if_pos c28] at H
                    have c28b0 : decide (0 ≤ x12_2) = true := decide_eq_true c28
                    clear c28
                    (first | rw [c28b0] | (simp only [i64_w, i32_w]; rw [c28b0]) | skip)
                    by_cases c29 : (rd t430 x12_2) < 0
                    · rw [if_pos c29] at H
                      have c29b0 : decide ((rd t430 x12_2) < 0) = true := decide_eq_true c29
                      clear c29
                      have H' := Aside0.mk H
                      clear H
                      have p444 : 0 ≤ (x12_2 : Int) := of_decide_eq_true (by first | (with_reducible assumption) | assumption)
                      have q444 : x12_2 < (t430.length : Int) := of_decide_eq_true (by first | (with_reducible assumption) | assumption)
                      obtain ⟨ad444, e444, hx444_0⟩ := Kd.at_int (Kd.R_reads' HO_7.out).2.2 x12_2 p444 q444
                      cases e444
                      replace p444 := eq_true p444
                      replace q444 := eq_true q444
                      go_wp2
                      repeat (go_quiet (fail); try go_wp2)
                      go_meet
                      case rel => exact ⟨_, (true), (by first | rfl | (simp; done) | (simp [*]; done)), H', ⟨by have := HJ10.out; have := HK2.out; first | omega | exact Nat.le_refl _⟩, ⟨by (with_reducible repeat (first | apply Kd.R_alloc | apply Kd.R_drewN | apply Kd.R_drew)); exact HO_7.out⟩, ⟨by (with_reducible repeat (first | apply Kd.R_alloc | apply Kd.R_drewN | apply Kd.R_drew)); exact HO_9.out⟩, ⟨by (with_reducible repeat (first | apply Kd.R_alloc | apply Kd.R_drewN | apply Kd.R_drew)); exact HO_11.out⟩, ⟨by (with_reducible repeat (first | refine blk_drewN ?_ _ | refine blk_drew ?_ | refine blk_alloc ?_ _)); exact BK428.out⟩, ⟨by repeat (first | (with_reducible first | exact HB.out | apply below_alloc | apply pw_below_drewN | apply below_drew1 | refine below_set ?_ GE428.out) | exact HB.out)⟩⟩
                    · rw [if_neg c29] at H
                      have c29b0 : decide ((rd t430 x12_2) < 0) = false := decide_eq_false c29
                      clear c29
                      by_cases c30 : (rd t430 x12_2) ≥ (l1.length : Int)
                      · rw [if_pos c30] at H
                        have c30b0 : decide ((l1.length : Int) ≤ (rd t430 x12_2)) = true := decide_eq_true c30
                        clear c30
                        have H' := Aside0.mk H
                        clear H
                        have p444 : 0 ≤ (x12_2 : Int) := of_decide_eq_true (by first | (with_reducible assumption) | assumption)
                        have q444 : x12_2 < (t430.length : Int) := of_decide_eq_true (by first | (with_reducible assumption) | assumption)
                        obtain ⟨ad444, e444, hx444_0⟩ := Kd.at_int (Kd.R_reads' HO_7.out).2.2 x12_2 p444 q444
                        cases e444
                        replace p444 := eq_true p444
                        replace q444 := eq_true q444
                        have p445 : 0 ≤ (x12_2 : Int) := of_decide_eq_true (by first | (with_reducible assumption) | assumption)
                        have q445 : x12_2 < (t430.length : Int) := of_decide_eq_true (by first | (with_reducible assumption) | assumption)
                        obtain ⟨ad445, e445, hx445_0⟩ := Kd.at_int (Kd.R_reads' HO_7.out).2.2 x12_2 p445 q445
                        obtain rfl : ad444 = ad445 := (by injection e445)
                        replace p445 := eq_true p445
                        replace q445 := eq_true q445
                        go_wp2
                        repeat (go_quiet (fail); try go_wp2)
                        go_meet
                        case rel => exact ⟨_, (true), (by first | rfl | (simp; done) | (simp [*]; done)), H', ⟨by have := HJ10.out; have := HK2.out; first | omega | exact Nat.le_refl _⟩, ⟨by (with_reducible repeat (first | apply Kd.R_alloc | apply Kd.R_drewN | apply Kd.R_drew)); exact HO_7.out⟩, ⟨by (with_reducible repeat (first | apply Kd.R_alloc | apply Kd.R_drewN | apply Kd.R_drew)); exact HO_9.out⟩, ⟨by (with_reducible repeat (first | apply Kd.R_alloc | apply Kd.R_drewN | apply Kd.R_drew)); exact HO_11.out⟩, ⟨by (with_reducible repeat (first | refine blk_drewN ?_ _ | refine blk_drew ?_ | refine blk_alloc ?_ _)); exact BK428.out⟩, ⟨by repeat (first | (with_reducible first | exact HB.out | apply below_alloc | apply pw_below_drewN | apply below_drew1 | refine below_set ?_ GE428.out) | exact HB.out)⟩⟩
                      · rw [if_neg c30] at H
                        have c30b0 : decide ((l1.length : Int) ≤ (rd t430 x12_2)) = false := decide_eq_false c30
                        clear c30
                        by_cases c31 : 0 ≤ (rd t430 x12_2)
                        · rw [if_pos c31] at H
                          have c31b0 : decide (0 ≤ (rd t430 x12_2)) = true := decide_eq_true c31
                          clear c31
                          by_cases c32 : (rd t430 x12_2) < (x11_2.length : Int)
                          · rw [if_pos c32] at H
                            have c32b0 : decide ((rd t430 x12_2) < (x11_2.length : Int)) = true := decide_eq_true c32
                            clear c32
                            obtain ⟨bq33, hbq33⟩ : ∃ b_ : Bool, b_ = (rdOf false x11_2 (rd t430 x12_2)) := ⟨_, rfl⟩
                            replace H : (if bq33 = true then (kimberlitelaw01_SpanFewest.j2 k2 l1 l2 t430 t434 x11_2 x12_2 true a0_0 a0_1) else (if x12_2 < (t434.length : Int) then (if (rd t434 x12_2) < a0_0 then (kimberlitelaw01_SpanFewest.j2 k2 l1 l2 t430 t434 x11_2 x12_2 true a0_0 a0_1) else (kimberlitelaw01_SpanFewest.j2 k2 l1 l2 t430 t434 x11_2 x12_2 (decide ((rd t434 x12_2) ≥ a0_1)) a0_0 a0_1)) else (none))) = some r := by rw [← hbq33] at H; exact H
                            have Nbq33 := Aside0.mk hbq33
                            clear hbq33
                            by_cases c34 : bq33 = true
                            · subst c34
                              have H1 : (kimberlitelaw01_SpanFewest.j2 k2 l1 l2 t430 t434 x11_2 x12_2 true a0_0 a0_1) = some r := by rw [if_pos rfl] at H; exact H
                              clear H
                              have H := H1
                              clear H1
                              have H' := Aside0.mk H
                              clear H
                              have p444 : 0 ≤ (x12_2 : Int) := of_decide_eq_true (by first | (with_reducible assumption) | assumption)
                              have q444 : x12_2 < (t430.length : Int) := of_decide_eq_true (by first | (with_reducible assumption) | assumption)
                              obtain ⟨ad444, e444, hx444_0⟩ := Kd.at_int (Kd.R_reads' HO_7.out).2.2 x12_2 p444 q444
                              cases e444
                              replace p444 := eq_true p444
                              replace q444 := eq_true q444
                              have p445 : 0 ≤ (x12_2 : Int) := of_decide_eq_true (by first | (with_reducible assumption) | assumption)
                              have q445 : x12_2 < (t430.length : Int) := of_decide_eq_true (by first | (with_reducible assumption) | assumption)
                              obtain ⟨ad445, e445, hx445_0⟩ := Kd.at_int (Kd.R_reads' HO_7.out).2.2 x12_2 p445 q445
                              obtain rfl : ad444 = ad445 := (by injection e445)
                              replace p445 := eq_true p445
                              replace q445 := eq_true q445
                              have p446 : 0 ≤ (x12_2 : Int) := of_decide_eq_true (by first | (with_reducible assumption) | assumption)
                              have q446 : x12_2 < (t430.length : Int) := of_decide_eq_true (by first | (with_reducible assumption) | assumption)
                              obtain ⟨ad446, e446, hx446_0⟩ := Kd.at_int (Kd.R_reads' HO_7.out).2.2 x12_2 p446 q446
                              obtain rfl : ad444 = ad446 := (by injection e446)
                              replace p446 := eq_true p446
                              replace q446 := eq_true q446
                              obtain ⟨Ao35, co35, eo35⟩ := Kd.R_slice HO_11.out
                              subst eo35
                              have p447 : 0 ≤ ((rd t430 x12_2) : Int) := of_decide_eq_true (by first | (with_reducible assumption) | assumption)
                              have q447 : (rd t430 x12_2) < (x11_2.length : Int) := of_decide_eq_true (by first | (with_reducible assumption) | assumption)
                              obtain ⟨ad447, e447, hx447_0⟩ := Kd.at_bool (Kd.R_reads' HO_11.out).2.2 (rd t430 x12_2) p447 q447
                              (try rw [← Nbq33.out] at hx447_0)
                              cases e447
                              replace p447 := eq_true p447
                              replace q447 := eq_true q447
                              go_wp2
                              repeat (go_quiet (fail); try go_wp2)
                              go_meet
                              case rel => exact ⟨_, (true), (by first | rfl | (simp; done) | (simp [*]; done)), H', ⟨by have := HJ10.out; have := HK2.out; first | omega | exact Nat.le_refl _⟩, ⟨by (with_reducible repeat (first | apply Kd.R_alloc | apply Kd.R_drewN | apply Kd.R_drew)); exact HO_7.out⟩, ⟨by (with_reducible repeat (first | apply Kd.R_alloc | apply Kd.R_drewN | apply Kd.R_drew)); exact HO_9.out⟩, ⟨by (with_reducible repeat (first | apply Kd.R_alloc | apply Kd.R_drewN | apply Kd.R_drew)); exact HO_11.out⟩, ⟨by (with_reducible repeat (first | refine blk_drewN ?_ _ | refine blk_drew ?_ | refine blk_alloc ?_ _)); exact BK428.out⟩, ⟨by repeat (first | (with_reducible first | exact HB.out | apply below_alloc | apply pw_below_drewN | apply below_drew1 | refine below_set ?_ GE428.out) | exact HB.out)⟩⟩
                            · replace c34 := Bool.eq_false_iff.mpr c34
                              subst c34
                              have H1 : (if x12_2 < (t434.length : Int) then (if (rd t434 x12_2) < a0_0 then (kimberlitelaw01_SpanFewest.j2 k2 l1 l2 t430 t434 x11_2 x12_2 true a0_0 a0_1) else (kimberlitelaw01_SpanFewest.j2 k2 l1 l2 t430 t434 x11_2 x12_2 (decide ((rd t434 x12_2) ≥ a0_1)) a0_0 a0_1)) else (none)) = some r := by rw [if_neg (show ¬ (false = true) by decide)] at H; exact H
                              clear H
                              have H := H1
                              clear H1
                              by_cases c36 : x12_2 < (t434.length : Int)
                              · rw [if_pos c36] at H
                                have c36b0 : decide (x12_2 < (t434.length : Int)) = true := decide_eq_true c36
                                clear c36
                                by_cases c37 : (rd t434 x12_2) < a0_0
                                · rw [if_pos c37] at H
                                  have c37b0 : decide ((rd t434 x12_2) < a0_0) = true := decide_eq_true c37
                                  clear c37
                                  have H' := Aside0.mk H
                                  clear H
                                  have p444 : 0 ≤ (x12_2 : Int) := of_decide_eq_true (by first | (with_reducible assumption) | assumption)
                                  have q444 : x12_2 < (t430.length : Int) := of_decide_eq_true (by first | (with_reducible assumption) | assumption)
                                  obtain ⟨ad444, e444, hx444_0⟩ := Kd.at_int (Kd.R_reads' HO_7.out).2.2 x12_2 p444 q444
                                  cases e444
                                  replace p444 := eq_true p444
                                  replace q444 := eq_true q444
                                  have p445 : 0 ≤ (x12_2 : Int) := of_decide_eq_true (by first | (with_reducible assumption) | assumption)
                                  have q445 : x12_2 < (t430.length : Int) := of_decide_eq_true (by first | (with_reducible assumption) | assumption)
                                  obtain ⟨ad445, e445, hx445_0⟩ := Kd.at_int (Kd.R_reads' HO_7.out).2.2 x12_2 p445 q445
                                  obtain rfl : ad444 = ad445 := (by injection e445)
                                  replace p445 := eq_true p445
                                  replace q445 := eq_true q445
                                  have p446 : 0 ≤ (x12_2 : Int) := of_decide_eq_true (by first | (with_reducible assumption) | assumption)
                                  have q446 : x12_2 < (t430.length : Int) := of_decide_eq_true (by first | (with_reducible assumption) | assumption)
                                  obtain ⟨ad446, e446, hx446_0⟩ := Kd.at_int (Kd.R_reads' HO_7.out).2.2 x12_2 p446 q446
                                  obtain rfl : ad444 = ad446 := (by injection e446)
                                  replace p446 := eq_true p446
                                  replace q446 := eq_true q446
                                  obtain ⟨Ao38, co38, eo38⟩ := Kd.R_slice HO_11.out
                                  subst eo38
                                  have p447 : 0 ≤ ((rd t430 x12_2) : Int) := of_decide_eq_true (by first | (with_reducible assumption) | assumption)
                                  have q447 : (rd t430 x12_2) < (x11_2.length : Int) := of_decide_eq_true (by first | (with_reducible assumption) | assumption)
                                  obtain ⟨ad447, e447, hx447_0⟩ := Kd.at_bool (Kd.R_reads' HO_11.out).2.2 (rd t430 x12_2) p447 q447
                                  (try rw [← Nbq33.out] at hx447_0)
                                  cases e447
                                  replace p447 := eq_true p447
                                  replace q447 := eq_true q447
                                  obtain ⟨Ao39, co39, eo39⟩ := Kd.R_slice HO_9.out
                                  subst eo39
                                  have p448 : 0 ≤ (x12_2 : Int) := of_decide_eq_true (by first | (with_reducible assumption) | assumption)
                                  have q448 : x12_2 < (t434.length : Int) := of_decide_eq_true (by first | (with_reducible assumption) | assumption)
                                  obtain ⟨ad448, e448, hx448_0⟩ := Kd.at_int (Kd.R_reads' HO_9.out).2.2 x12_2 p448 q448
                                  cases e448
                                  replace p448 := eq_true p448
                                  replace q448 := eq_true q448
                                  have hcz40_0 : wr.cell? ⟨gb428, 0, none⟩ = some (.int .i64 a0_0) := (blk_cell BK428.out 0).trans rfl
                                  have hcz40_1 : wr.cell? ⟨gb428, 1, none⟩ = some (.int .i64 a0_1) := (blk_cell BK428.out 1).trans rfl
                                  have hfz40_0 := blk_frozen BK428.out 0
                                  have hfz40_1 := blk_frozen BK428.out 1
                                  go_wp2
                                  repeat (go_quiet (fail); try go_wp2)
                                  go_meet
                                  case rel => exact ⟨_, (true), (by first | rfl | (simp; done) | (simp [*]; done)), H', ⟨by have := HJ10.out; have := HK2.out; first | omega | exact Nat.le_refl _⟩, ⟨by (with_reducible repeat (first | apply Kd.R_alloc | apply Kd.R_drewN | apply Kd.R_drew)); exact HO_7.out⟩, ⟨by (with_reducible repeat (first | apply Kd.R_alloc | apply Kd.R_drewN | apply Kd.R_drew)); exact HO_9.out⟩, ⟨by (with_reducible repeat (first | apply Kd.R_alloc | apply Kd.R_drewN | apply Kd.R_drew)); exact HO_11.out⟩, ⟨by (with_reducible repeat (first | refine blk_drewN ?_ _ | refine blk_drew ?_ | refine blk_alloc ?_ _)); exact BK428.out⟩, ⟨by repeat (first | (with_reducible first | exact HB.out | apply below_alloc | apply pw_below_drewN | apply below_drew1 | refine below_set ?_ GE428.out) | exact HB.out)⟩⟩
                                · rw [if_neg c37] at H
                                  have c37b0 : decide ((rd t434 x12_2) < a0_0) = false := decide_eq_false c37
                                  clear c37
                                  have H' := Aside0.mk H
                                  clear H
                                  have p444 : 0 ≤ (x12_2 : Int) := of_decide_eq_true (by first | (with_reducible assumption) | assumption)
                                  have q444 : x12_2 < (t430.length : Int) := of_decide_eq_true (by first | (with_reducible assumption) | assumption)
                                  obtain ⟨ad444, e444, hx444_0⟩ := Kd.at_int (Kd.R_reads' HO_7.out).2.2 x12_2 p444 q444
                                  cases e444
                                  replace p444 := eq_true p444
                                  replace q444 := eq_true q444
                                  have p445 : 0 ≤ (x12_2 : Int) := of_decide_eq_true (by first | (with_reducible assumption) | assumption)
                                  have q445 : x12_2 < (t430.length : Int) := of_decide_eq_true (by first | (with_reducible assumption) | assumption)
                                  obtain ⟨ad445, e445, hx445_0⟩ := Kd.at_int (Kd.R_reads' HO_7.out).2.2 x12_2 p445 q445
                                  obtain rfl : ad444 = ad445 := (by injection e445)
                                  replace p445 := eq_true p445
                                  replace q445 := eq_true q445
                                  have p446 : 0 ≤ (x12_2 : Int) := of_decide_eq_true (by first | (with_reducible assumption) | assumption)
                                  have q446 : x12_2 < (t430.length : Int) := of_decide_eq_true (by first | (with_reducible assumption) | assumption)
                                  obtain ⟨ad446, e446, hx446_0⟩ := Kd.at_int (Kd.R_reads' HO_7.out).2.2 x12_2 p446 q446
                                  obtain rfl : ad444 = ad446 := (by injection e446)
                                  replace p446 := eq_true p446
                                  replace q446 := eq_true q446
                                  obtain ⟨Ao41, co41, eo41⟩ := Kd.R_slice HO_11.out
                                  subst eo41
                                  have p447 : 0 ≤ ((rd t430 x12_2) : Int) := of_decide_eq_true (by first | (with_reducible assumption) | assumption)
                                  have q447 : (rd t430 x12_2) < (x11_2.length : Int) := of_decide_eq_true (by first | (with_reducible assumption) | assumption)
                                  obtain ⟨ad447, e447, hx447_0⟩ := Kd.at_bool (Kd.R_reads' HO_11.out).2.2 (rd t430 x12_2) p447 q447
                                  (try rw [← Nbq33.out] at hx447_0)
                                  cases e447
                                  replace p447 := eq_true p447
                                  replace q447 := eq_true q447
                                  obtain ⟨Ao42, co42, eo42⟩ := Kd.R_slice HO_9.out
                                  subst eo42
                                  have p448 : 0 ≤ (x12_2 : Int) := of_decide_eq_true (by first | (with_reducible assumption) | assumption)
                                  have q448 : x12_2 < (t434.length : Int) := of_decide_eq_true (by first | (with_reducible assumption) | assumption)
                                  obtain ⟨ad448, e448, hx448_0⟩ := Kd.at_int (Kd.R_reads' HO_9.out).2.2 x12_2 p448 q448
                                  cases e448
                                  replace p448 := eq_true p448
                                  replace q448 := eq_true q448
                                  have hcz43_0 : wr.cell? ⟨gb428, 0, none⟩ = some (.int .i64 a0_0) := (blk_cell BK428.out 0).trans rfl
                                  have hcz43_1 : wr.cell? ⟨gb428, 1, none⟩ = some (.int .i64 a0_1) := (blk_cell BK428.out 1).trans rfl
                                  have hfz43_0 := blk_frozen BK428.out 0
                                  have hfz43_1 := blk_frozen BK428.out 1
                                  have p449 : 0 ≤ (x12_2 : Int) := of_decide_eq_true (by first | (with_reducible assumption) | assumption)
                                  have q449 : x12_2 < (t434.length : Int) := of_decide_eq_true (by first | (with_reducible assumption) | assumption)
                                  obtain ⟨ad449, e449, hx449_0⟩ := Kd.at_int (Kd.R_reads' HO_9.out).2.2 x12_2 p449 q449
                                  obtain rfl : ad448 = ad449 := (by injection e449)
                                  replace p449 := eq_true p449
                                  replace q449 := eq_true q449
                                  go_wp2
                                  repeat (go_quiet (fail); try go_wp2)
                                  go_meet
                                  case rel => exact ⟨_, (decide ((rd t434 x12_2) ≥ a0_1)), (by first | rfl | (simp; done) | (simp [*]; done)), H', ⟨by have := HJ10.out; have := HK2.out; first | omega | exact Nat.le_refl _⟩, ⟨by (with_reducible repeat (first | apply Kd.R_alloc | apply Kd.R_drewN | apply Kd.R_drew)); exact HO_7.out⟩, ⟨by (with_reducible repeat (first | apply Kd.R_alloc | apply Kd.R_drewN | apply Kd.R_drew)); exact HO_9.out⟩, ⟨by (with_reducible repeat (first | apply Kd.R_alloc | apply Kd.R_drewN | apply Kd.R_drew)); exact HO_11.out⟩, ⟨by (with_reducible repeat (first | refine blk_drewN ?_ _ | refine blk_drew ?_ | refine blk_alloc ?_ _)); exact BK428.out⟩, ⟨by repeat (first | (with_reducible first | exact HB.out | apply below_alloc | apply pw_below_drewN | apply below_drew1 | refine below_set ?_ GE428.out) | exact HB.out)⟩⟩
                              · rw [if_neg c36] at H
                                exact absurd H (by simp)
                          · rw [if_neg c32] at H
                            exact absurd H (by simp)
                        · rw [if_neg c31] at H
                          exact absurd H (by simp)
                  · rw [if_neg c28] at H
                    exact absurd H (by simp)
                 case rest =>
                  clear HC26
                  try clear c1
                  try clear c2
                  try clear p2
                  try clear c3
                  try clear q3
                  try clear c4
                  try clear c4b0
                  try clear c4b1
                  try clear p4
                  try clear q4
                  try clear hx4
                  try clear c5
                  try clear c10
                  try clear c10b0
                  try clear c10b1
                  try clear c17
                  try clear c17b0
                  try clear c17b1
                  try clear c20
                  try clear c21
                  try clear c21b0
                  try clear c21b1
                  try clear c22
                  try clear c22b0
                  try clear c22b1
                  try clear c25
                  try clear c25b0
                  try clear c28
                  try clear c28b0
                  try clear c29
                  try clear c29b0
                  try clear c30
                  try clear c30b0
                  try clear c31
                  try clear c31b0
                  try clear c32
                  try clear c32b0
                  try clear q33
                  try clear c34
                  try clear c36
                  try clear c36b0
                  try clear c37
                  try clear c37b0
                  try clear hcz13_0
                  try clear hcz13_1
                  try clear hcz15_0
                  try clear hcz15_1
                  try clear hcz40_0
                  try clear hcz40_1
                  try clear hcz43_0
                  try clear hcz43_1
                  try clear hfz13_0
                  try clear hfz13_1
                  try clear hfz15_0
                  try clear hfz15_1
                  try clear hfz40_0
                  try clear hfz40_1
                  try clear hfz43_0
                  try clear hfz43_1
                  try clear hx444_0
                  try clear hx445_0
                  try clear hx446_0
                  try clear hx447_0
                  try clear hx448_0
                  try clear hx449_0
                  try clear p2
                  try clear p444
                  try clear p445
                  try clear p446
                  try clear p447
                  try clear p448
                  try clear p449
                  try clear q444
                  try clear q445
                  try clear q446
                  try clear q447
                  try clear q448
                  try clear q449
                  obtain ⟨kq, x121_25, rfl, HA, HJ25, HO_7, HO_9, HO_11, BK428, HB⟩ := hcut
                  cases kq with
                  | zero => exact absurd HA.out (by simp [kimberlitelaw01_SpanFewest.j2])
                  | succ kj25 =>
                   have H := HA.out
                   clear HA
                   simp only [kimberlitelaw01_SpanFewest.j2] at H
                   by_cases c44 : x121_25 = true
                   · subst c44
                     have H1 : (some false) = some r := by rw [if_pos rfl] at H; exact H
                     clear H
                     have H := H1
                     clear H1
                     obtain rfl := Option.some.inj H
                     go_wp2
                     go_ret
                     exact ⟨by first | rfl | (simp [errW_none, errW_some] <;> rfl) | (simp [*, errW_none, errW_some] <;> rfl), by repeat (first | (with_reducible first | exact HB.out | apply below_alloc | apply pw_below_drewN | apply below_drew1 | refine below_set ?_ GE428.out) | exact HB.out)⟩
                   · replace c44 := Bool.eq_false_iff.mpr c44
                     subst c44
                     have H1 : (if 0 ≤ x12_2 then (if x12_2 < (t430.length : Int) then (if 0 ≤ (rd t430 x12_2) then (if (rd t430 x12_2) < (x11_2.length : Int) then (kimberlitelaw01_SpanFewest.l0 kj25 l1 l2 t430 t434 (x11_2.set ((rd t430 x12_2) : Int).toNat true) (wrap64 (x12_2 + 1)) a0_0 a0_1) else (none)) else (none)) else (none)) else (none)) = some r := by rw [if_neg (show ¬ (false = true) by decide)] at H; exact H
                     clear H
                     have H := H1
                     clear H1
                     by_cases c45 : 0 ≤ x12_2
                     · rw [if_pos c45] at H
                       have c45b0 : decide (0 ≤ x12_2) = true := decide_eq_true c45
                       clear c45
                       by_cases c46 : x12_2 < (t430.length : Int)
                       · rw [if_pos c46] at H
                         have c46b0 : decide (x12_2 < (t430.length : Int)) = true := decide_eq_true c46
                         clear c46
                         by_cases c47 : 0 ≤ (rd t430 x12_2)
                         · rw [if_pos c47] at H
                           have c47b0 : decide (0 ≤ (rd t430 x12_2)) = true := decide_eq_true c47
                           clear c47
                           by_cases c48 : (rd t430 x12_2) < (x11_2.length : Int)
                           · rw [if_pos c48] at H
                             have c48b0 : decide ((rd t430 x12_2) < (x11_2.length : Int)) = true := decide_eq_true c48
                             clear c48
                             obtain ⟨y451, hy451⟩ : ∃ y_ : List Bool, y_ = (x11_2.set ((rd t430 x12_2) : Int).toNat true) := ⟨_, rfl⟩
                             replace H : (kimberlitelaw01_SpanFewest.l0 kj25 l1 l2 t430 t434 y451 (wrap64 (x12_2 + 1)) a0_0 a0_1) = some r := by first | (rw [hy451]; with_reducible exact H) | (have H2_ := (Option.bind_some _ _).symm.trans H; rw [hy451]; with_reducible exact H2_) | (have H2_ := (Option.bind_some _ _).symm.trans H; with_reducible exact H2_) | with_reducible exact H | (rw [hy451]; exact H) | exact H
                             have Ny451 := Aside0.mk hy451
                             clear hy451
                             have H' := Aside0.mk H
                             clear H
                             have p450 : 0 ≤ (x12_2 : Int) := of_decide_eq_true (by first | (with_reducible assumption) | assumption)
                             have q450 : x12_2 < (t430.length : Int) := of_decide_eq_true (by first | (with_reducible assumption) | assumption)
                             obtain ⟨ad450, e450, hx450_0⟩ := Kd.at_int (Kd.R_reads' HO_7.out).2.2 x12_2 p450 q450
                             cases e450
                             replace p450 := eq_true p450
                             replace q450 := eq_true q450
                             have p49 : 0 ≤ ((rd t430 x12_2) : Int) := of_decide_eq_true (by first | (with_reducible assumption) | assumption)
                             have q49 : ((rd t430 x12_2) : Int) < ((x11_2.length : Int) : Int) := of_decide_eq_true (by first | (with_reducible assumption) | assumption)
                             obtain ⟨go49, co49, eo49, gb49, gl49, cl49, HG49⟩ := Kd.R_form HO_11.out (by omega)
                             (first | cases eo49 | (injection eo49 with ea_ en_ ec_; (first | subst ea_ | (injection ea_ with ea_; subst ea_)); subst ec_; clear en_))
                             have GB49 := Aside0.mk gb49
                             have GG49 := Aside0.mk HG49
                             clear gb49 gl49 HG49
                             obtain ⟨hx49_0, hf49_0⟩ := Kd.R_celln false HO_11.out ((rd t430 x12_2) : Int) p49 q49
                             replace p49 := eq_true p49
                             replace q49 := eq_true q49
                             have HP50 := Kd.R_putg HO_11.out ((rd t430 x12_2) : Int) true
                             go_wp2_with (first | ((with_reducible refine gate_store (t := 4) (p := 127) rfl ?_); (try (rw [drewN_self wc]; generalize hq_ : World.drewN wc _ = wc; have n0_ := Aside0.mk (Kd.R_at hq_ HO_7.out); have n1_ := Aside0.mk (Kd.R_at hq_ HO_9.out); have n2_ := Aside0.mk (Kd.R_at hq_ HO_11.out); have n3_ := Aside0.mk (blk_at hq_ BK428.out); have n4_ := Aside0.mk (below_at hq_ HB.out); clear hq_ HO_7 HO_9 HO_11 BK428 HB; have HO_7 := n0_; have HO_9 := n1_; have HO_11 := n2_; have BK428 := n3_; have HB := n4_; clear n0_ n1_ n2_ n3_ n4_; (try (have HP50 := Kd.R_putg HO_11.out ((rd t430 x12_2) : Int) true)))); refine store_event (t := 4) (p := 127) (v := ?vo_w51) (w1 := (wc.setCell ⟨go49, ((rd t430 x12_2) : Int).toNat, none⟩ (.bool true))) ?hg ?ho ?hn ?hr ?_; (case ho => rfl); (case hg => rfl); (case hn => rfl); (case hr => first | (go_simp; done) | (go_simp; rfl)); intro w51 hw; have hg : wc.grownBy w51 (some go49) := (by rw [hw]; exact HP50.2); have hp_ : Kd.R Kd.bool 4 w51 w.heap.size (fun _ => True) (.slice (some ⟨go49, 0, none⟩) x11_2.length co49) y451 := (by rw [hw, Ny451.out]; first | exact HP50.1 | (rw [← Nbq76.out]; exact HP50.1)); clear HP50; have n0_ := Aside0.mk (Kd.R_over' (v := (.slice (some ⟨go49, 0, none⟩) x11_2.length co49)) (by (with_reducible repeat (first | apply Kd.R_alloc | apply Kd.R_drewN | apply Kd.R_drew)); exact HO_7.out) (Kd.R_typed HO_11.out) (by decide) hg); have n1_ := Aside0.mk (Kd.R_over' (v := (.slice (some ⟨go49, 0, none⟩) x11_2.length co49)) (by (with_reducible repeat (first | apply Kd.R_alloc | apply Kd.R_drewN | apply Kd.R_drew)); exact HO_9.out) (Kd.R_typed HO_11.out) (by decide) hg); have n2_ := Aside0.mk (hp_); have n3_ := Aside0.mk (blk_grown (g := gb428) (o := .cells #[.int .i64 a0_0, .int .i64 a0_1] 32 (0, 0)) (by (with_reducible repeat (first | refine blk_drewN ?_ _ | refine blk_drew ?_ | refine blk_alloc ?_ _)); exact BK428.out) hg (Kd.R_ne HO_11.out BK428.out (by decide))); have n4_ := Aside0.mk ((by rw [hw]; exact below_set (HB.out) GB49.out : Below w.heap.size w w51)); clear HO_7; clear HO_9; clear HO_11; clear BK428; clear HB; have HO_7 := n0_; have HO_9 := n1_; have HO_11 := n2_; have BK428 := n3_; have HB := n4_; clear n0_ n1_ n2_ n3_ n4_; clear hg hw hp_))
                             go_roundg kj25
                             case measure => have := HJ10.out; have := HK2.out; have := HJ25.out; omega
                             case rel => exact ⟨(y451), (wrap64 (x12_2 + 1)), (by first | rfl | (simp; done) | (simp [*]; done)), H', ⟨by have := HJ10.out; have := HK2.out; have := HJ25.out; omega⟩, ⟨by (with_reducible repeat (first | apply Kd.R_alloc | apply Kd.R_drewN | apply Kd.R_drew)); exact HO_7.out⟩, ⟨by (with_reducible repeat (first | apply Kd.R_alloc | apply Kd.R_drewN | apply Kd.R_drew)); exact HO_9.out⟩, ⟨by (with_reducible repeat (first | apply Kd.R_alloc | apply Kd.R_drewN | apply Kd.R_drew)); exact HO_11.out⟩, ⟨by (with_reducible repeat (first | refine blk_drewN ?_ _ | refine blk_drew ?_ | refine blk_alloc ?_ _)); exact BK428.out⟩, ⟨by repeat (first | (with_reducible first | exact HB.out | apply below_alloc | apply pw_below_drewN | apply below_drew1 | refine below_set ?_ GE428.out) | exact HB.out)⟩⟩
                           · rw [if_neg c48] at H
                             exact absurd H (by simp)
                         · rw [if_neg c47] at H
                           exact absurd H (by simp)
                       · rw [if_neg c46] at H
                         exact absurd H (by simp)
                     · rw [if_neg c45] at H
                       exact absurd H (by simp)
               · rw [if_neg c25] at H
                 have c25b0 : decide (x12_2 < (t430.length : Int)) = false := decide_eq_false c25
                 clear c25
                 have H' := Aside0.mk H
                 clear H
                 obtain ⟨Ao52, co52, eo52⟩ := Kd.R_slice HO_7.out
                 subst eo52
                 go_wp2
                 go_loopg [13] k2 (fun kq v13 w' => ∃ (x13_3 : Int), v13 = .int .i64 x13_3 ∧ Aside0 (kimberlitelaw01_SpanFewest.l1 kq l1 l2 t430 t434 x11_2 x13_3 a0_0 a0_1 = some r) ∧ Aside0 (kq ≤ k2) ∧ Aside0 (Kd.R (Kd.int .i64) 3 w' w.heap.size (fun k_ => some k_ ≠ (v435 : Value).ownBlock) (.slice Ao52 t430.length co52) t430) ∧ Aside0 (Kd.R (Kd.int .i64) 3 w' w.heap.size (fun k_ => some k_ ≠ ((.slice Ao52 t430.length co52) : Value).ownBlock) v435 t434) ∧ Aside0 (Kd.R Kd.bool 4 w' w.heap.size (fun _ => True) v442 x11_2) ∧ Aside0 (w'.heap[gb428]? = some (.cells #[.int .i64 a0_0, .int .i64 a0_1] 32 (0, 0))) ∧ Aside0 (Below w.heap.size w w'))
                 case atStart => exact ⟨(0), (by first | rfl | (simp; done) | (simp [*]; done)), H', ⟨Nat.le_refl _⟩, ⟨by (with_reducible repeat (first | apply Kd.R_alloc | apply Kd.R_drewN | apply Kd.R_drew)); exact HO_7.out⟩, ⟨by (with_reducible repeat (first | apply Kd.R_alloc | apply Kd.R_drewN | apply Kd.R_drew)); exact HO_9.out⟩, ⟨by (with_reducible repeat (first | apply Kd.R_alloc | apply Kd.R_drewN | apply Kd.R_drew)); exact HO_11.out⟩, ⟨by (with_reducible repeat (first | refine blk_drewN ?_ _ | refine blk_drew ?_ | refine blk_alloc ?_ _)); exact BK428.out⟩, ⟨by repeat (first | (with_reducible first | exact HB.out | apply below_alloc | apply pw_below_drewN | apply below_drew1 | refine below_set ?_ GE428.out) | exact HB.out)⟩⟩
                 case round =>
                  clear H'
                  try clear c1
                  try clear c2
                  try clear p2
                  try clear c3
                  try clear q3
                  try clear c4
                  try clear c4b0
                  try clear c4b1
                  try clear p4
                  try clear q4
                  try clear hx4
                  try clear hf4
                  try clear c5
                  try clear p6
                  try clear c10
                  try clear c10b0
                  try clear c10b1
                  try clear c17
                  try clear c17b0
                  try clear c17b1
                  try clear c20
                  try clear c21
                  try clear c21b0
                  try clear c21b1
                  try clear c22
                  try clear c22b0
                  try clear c22b1
                  try clear c25
                  try clear c25b0
                  try clear c28
                  try clear c28b0
                  try clear c29
                  try clear c29b0
                  try clear c30
                  try clear c30b0
                  try clear c31
                  try clear c31b0
                  try clear c32
                  try clear c32b0
                  try clear q33
                  try clear c34
                  try clear c36
                  try clear c36b0
                  try clear c37
                  try clear c37b0
                  try clear c44
                  try clear p44
                  try clear q44
                  try clear hx44
                  try clear c45
                  try clear c45b0
                  try clear p45
                  try clear q45
                  try clear hx45
                  try clear c46
                  try clear c46b0
                  try clear c47
                  try clear c47b0
                  try clear c48
                  try clear c48b0
                  try clear p49
                  try clear q49
                  try clear hx49
                  try clear hf49
                  try clear hcz13_0
                  try clear hcz13_1
                  try clear hcz15_0
                  try clear hcz15_1
                  try clear hcz40_0
                  try clear hcz40_1
                  try clear hcz43_0
                  try clear hcz43_1
                  try clear hfz13_0
                  try clear hfz13_1
                  try clear hfz15_0
                  try clear hfz15_1
                  try clear hfz40_0
                  try clear hfz40_1
                  try clear hfz43_0
                  try clear hfz43_1
                  try clear hx444_0
                  try clear hx445_0
                  try clear hx446_0
                  try clear hx447_0
                  try clear hx448_0
                  try clear hx449_0
                  try clear hx450_0
                  try clear hx49_0
                  try clear p2
                  try clear p4
                  try clear p444
                  try clear p445
                  try clear p446
                  try clear p447
                  try clear p448
                  try clear p449
                  try clear p450
                  try clear p49
                  try clear q3
                  try clear q33
                  try clear q4
                  try clear q444
                  try clear q445
                  try clear q446
                  try clear q447
                  try clear q448
                  try clear q449
                  try clear q450
                  try clear q49
                  obtain ⟨x13_3, rfl, HA, HK3, HO_7, HO_9, HO_11, BK428, HB⟩ := hrel
                  cases gk with
                  | zero => exact absurd HA.out (by simp [kimberlitelaw01_SpanFewest.l1])
                  | succ k3 =>
                   have H := HA.out
                   clear HA
                   simp only [kimberlitelaw01_SpanFewest.l1] at H
                   by_cases c53 : x13_3 < (l1.length : Int)
                   · rw [if_pos c53] at H
                     have c53b0 : decide (x13_3 < (l1.length : Int)) = true := decide_eq_true c53
                     clear c53
                     have H' := Aside0.mk H
                     clear H
                     go_wp2
                     go_loopg [14, 15] k3 (fun kq v14 v15 w' => ∃ (x14_4 : Int) (x15_4 : Int), v14 = .int .i64 x14_4 ∧ v15 = .int .i64 x15_4 ∧ Aside0 (kimberlitelaw01_SpanFewest.l2 kq l1 l2 t430 t434 x11_2 x13_3 x14_4 x15_4 a0_0 a0_1 = some r) ∧ Aside0 (kq ≤ k3) ∧ Aside0 (Kd.R (Kd.int .i64) 3 w' w.heap.size (fun k_ => some k_ ≠ (v435 : Value).ownBlock) (.slice Ao52 t430.length co52) t430) ∧ Aside0 (Kd.R (Kd.int .i64) 3 w' w.heap.size (fun k_ => some k_ ≠ ((.slice Ao52 t430.length co52) : Value).ownBlock) v435 t434) ∧ Aside0 (Kd.R Kd.bool 4 w' w.heap.size (fun _ => True) v442 x11_2) ∧ Aside0 (w'.heap[gb428]? = some (.cells #[.int .i64 a0_0, .int .i64 a0_1] 32 (0, 0))) ∧ Aside0 (Below w.heap.size w w'))
                     case atStart => exact ⟨(0), (0), (by first | rfl | (simp; done) | (simp [*]; done)), (by first | rfl | (simp; done) | (simp [*]; done)), H', ⟨Nat.le_refl _⟩, ⟨by (with_reducible repeat (first | apply Kd.R_alloc | apply Kd.R_drewN | apply Kd.R_drew)); exact HO_7.out⟩, ⟨by (with_reducible repeat (first | apply Kd.R_alloc | apply Kd.R_drewN | apply Kd.R_drew)); exact HO_9.out⟩, ⟨by (with_reducible repeat (first | apply Kd.R_alloc | apply Kd.R_drewN | apply Kd.R_drew)); exact HO_11.out⟩, ⟨by (with_reducible repeat (first | refine blk_drewN ?_ _ | refine blk_drew ?_ | refine blk_alloc ?_ _)); exact BK428.out⟩, ⟨by repeat (first | (with_reducible first | exact HB.out | apply below_alloc | apply pw_below_drewN | apply below_drew1 | refine below_set ?_ GE428.out) | exact HB.out)⟩⟩
                     case round =>
                      clear H'
                      try clear c1
                      try clear c2
                      try clear p2
                      try clear c3
                      try clear q3
                      try clear c4
                      try clear c4b0
                      try clear c4b1
                      try clear p4
                      try clear q4
                      try clear hx4
                      try clear hf4
                      try clear c5
                      try clear p6
                      try clear c10
                      try clear c10b0
                      try clear c10b1
                      try clear c17
                      try clear c17b0
                      try clear c17b1
                      try clear c20
                      try clear c21
                      try clear c21b0
                      try clear c21b1
                      try clear c22
                      try clear c22b0
                      try clear c22b1
                      try clear c25
                      try clear c25b0
                      try clear c28
                      try clear c28b0
                      try clear c29
                      try clear c29b0
                      try clear c30
                      try clear c30b0
                      try clear c31
                      try clear c31b0
                      try clear c32
                      try clear c32b0
                      try clear q33
                      try clear c34
                      try clear c36
                      try clear c36b0
                      try clear c37
                      try clear c37b0
                      try clear c44
                      try clear p44
                      try clear q44
                      try clear hx44
                      try clear c45
                      try clear c45b0
                      try clear p45
                      try clear q45
                      try clear hx45
                      try clear c46
                      try clear c46b0
                      try clear c47
                      try clear c47b0
                      try clear c48
                      try clear c48b0
                      try clear p49
                      try clear q49
                      try clear hx49
                      try clear hf49
                      try clear c53
                      try clear c53b0
                      try clear hcz13_0
                      try clear hcz13_1
                      try clear hcz15_0
                      try clear hcz15_1
                      try clear hcz40_0
                      try clear hcz40_1
                      try clear hcz43_0
                      try clear hcz43_1
                      try clear hfz13_0
                      try clear hfz13_1
                      try clear hfz15_0
                      try clear hfz15_1
                      try clear hfz40_0
                      try clear hfz40_1
                      try clear hfz43_0
                      try clear hfz43_1
                      try clear hx444_0
                      try clear hx445_0
                      try clear hx446_0
                      try clear hx447_0
                      try clear hx448_0
                      try clear hx449_0
                      try clear hx450_0
                      try clear hx49_0
                      try clear p2
                      try clear p4
                      try clear p44
                      try clear p444
                      try clear p445
                      try clear p446
                      try clear p447
                      try clear p448
                      try clear p449
                      try clear p45
                      try clear p450
                      try clear p49
                      try clear p6
                      try clear q3
                      try clear q33
                      try clear q4
                      try clear q44
                      try clear q444
                      try clear q445
                      try clear q446
                      try clear q447
                      try clear q448
                      try clear q449
                      try clear q45
                      try clear q450
                      try clear q49
                      obtain ⟨x14_4, x15_4, rfl, rfl, HA, HK4, HO_7, HO_9, HO_11, BK428, HB⟩ := hrel
                      cases gk with
                      | zero => exact absurd HA.out (by simp [kimberlitelaw01_SpanFewest.l2])
                      | succ k4 =>
                       have H := HA.out
                       clear HA
                       simp only [kimberlitelaw01_SpanFewest.l2] at H
                       by_cases c54 : x15_4 < (t434.length : Int)
                       · rw [if_pos c54] at H
                         have c54b0 : decide (x15_4 < (t434.length : Int)) = true := decide_eq_true c54
                         clear c54
                         have HC55 := Aside0.mk H
                         clear H
                         obtain ⟨Ao56, co56, eo56⟩ := Kd.R_slice HO_9.out
                         subst eo56
                         go_upto_region 23 with (fail)
                         go_cut [161] (fun v161 wc => ∃ (kq : Nat) (x161_54 : Bool), v161 = .bool x161_54 ∧ Aside0 (kimberlitelaw01_SpanFewest.j5 kq l1 l2 t430 t434 x11_2 x13_3 x14_4 x15_4 x161_54 a0_0 a0_1 = some r) ∧ Aside0 (kq ≤ k4) ∧ Aside0 (Kd.R (Kd.int .i64) 3 wc w.heap.size (fun k_ => some k_ ≠ ((.slice Ao56 t434.length co56) : Value).ownBlock) (.slice Ao52 t430.length co52) t430) ∧ Aside0 (Kd.R (Kd.int .i64) 3 wc w.heap.size (fun k_ => some k_ ≠ ((.slice Ao52 t430.length co52) : Value).ownBlock) (.slice Ao56 t434.length co56) t434) ∧ Aside0 (Kd.R Kd.bool 4 wc w.heap.size (fun _ => True) v442 x11_2) ∧ Aside0 (wc.heap[gb428]? = some (.cells #[.int .i64 a0_0, .int .i64 a0_1] 32 (0, 0))) ∧ Aside0 (Below w.heap.size w wc))
                         case first =>
                          have H := HC55.out
                          clear HC55
                          by_cases c57 : 0 ≤ x13_3
                          · rw [if_pos c57] at H
                            have c57b0 : decide (0 ≤ x13_3) = true := decide_eq_true c57
                            clear c57
                            (first | rw [c57b0] | (simp only [i64_w, i32_w]; rw [c57b0]) | skip)
                            by_cases c58 : x13_3 < (l1.length : Int)
                            · rw [if_pos c58] at H
                              have c58b0 : decide (x13_3 < (l1.length : Int)) = true := decide_eq_true c58
                              clear c58
                              by_cases c59 : 0 ≤ x15_4
                              · rw [if_pos c59] at H
                                have c59b0 : decide (0 ≤ x15_4) = true := decide_eq_true c59
                                clear c59
                                by_cases c60 : ((rd_T32 l1 x13_3).f0) ≤ (rd t434 x15_4)
                                · rw [if_pos c60] at H
                                  have c60b0 : decide (((rd_T32 l1 x13_3).f0) ≤ (rd t434 x15_4)) = true := decide_eq_true c60
                                  clear c60
                                  have H' := Aside0.mk H
                                  clear H
                                  have p452 : 0 ≤ (x13_3 : Int) := of_decide_eq_true (by first | (with_reducible assumption) | assumption)
                                  have q452 : x13_3 < (l1.length : Int) := of_decide_eq_true (by first | (with_reducible assumption) | assumption)
                                  obtain ⟨ad452, e452, hx452_0, hx452_1⟩ := at_T32 HR1.out x13_3 p452 q452
                                  cases e452
                                  replace hx452_0 := (HB.out.cell (World.block_lt_of_cell? w _ hx452_0)).trans hx452_0
                                  replace hx452_1 := (HB.out.cell (World.block_lt_of_cell? w _ hx452_1)).trans hx452_1
                                  replace p452 := eq_true p452
                                  replace q452 := eq_true q452
                                  have p453 : 0 ≤ (x15_4 : Int) := of_decide_eq_true (by first | (with_reducible assumption) | assumption)
                                  have q453 : x15_4 < (t434.length : Int) := of_decide_eq_true (by first | (with_reducible assumption) | assumption)
                                  obtain ⟨ad453, e453, hx453_0⟩ := Kd.at_int (Kd.R_reads' HO_9.out).2.2 x15_4 p453 q453
                                  cases e453
                                  replace p453 := eq_true p453
                                  replace q453 := eq_true q453
                                  have p454 : 0 ≤ (x15_4 : Int) := of_decide_eq_true (by first | (with_reducible assumption) | assumption)
                                  have q454 : x15_4 < (t434.length : Int) := of_decide_eq_true (by first | (with_reducible assumption) | assumption)
                                  obtain ⟨ad454, e454, hx454_0⟩ := Kd.at_int (Kd.R_reads' HO_9.out).2.2 x15_4 p454 q454
                                  obtain rfl : ad453 = ad454 := (by injection e454)
                                  replace p454 := eq_true p454
                                  replace q454 := eq_true q454
                                  have p455 : 0 ≤ (x13_3 : Int) := of_decide_eq_true (by first | (with_reducible assumption) | assumption)
                                  have q455 : x13_3 < (l1.length : Int) := of_decide_eq_true (by first | (with_reducible assumption) | assumption)
                                  obtain ⟨ad455, e455, hx455_0, hx455_1⟩ := at_T32 HR1.out x13_3 p455 q455
                                  obtain rfl : ad452 = ad455 := (by injection e455)
                                  replace hx455_0 := (HB.out.cell (World.block_lt_of_cell? w _ hx455_0)).trans hx455_0
                                  replace hx455_1 := (HB.out.cell (World.block_lt_of_cell? w _ hx455_1)).trans hx455_1
                                  replace p455 := eq_true p455
                                  replace q455 := eq_true q455
                                  go_wp2
                                  repeat (go_quiet (fail); try go_wp2)
                                  go_meet
                                  case rel => exact ⟨_, (decide ((rd t434 x15_4) < ((rd_T32 l1 x13_3).f1))), (by first | rfl | (simp; done) | (simp [*]; done)), H', ⟨by have := HJ10.out; have := HK2.out; have := HK3.out; have := HK4.out; first | omega | exact Nat.le_refl _⟩, ⟨by (with_reducible repeat (first | apply Kd.R_alloc | apply Kd.R_drewN | apply Kd.R_drew)); exact HO_7.out⟩, ⟨by (with_reducible repeat (first | apply Kd.R_alloc | apply Kd.R_drewN | apply Kd.R_drew)); exact HO_9.out⟩, ⟨by (with_reducible repeat (first | apply Kd.R_alloc | apply Kd.R_drewN | apply Kd.R_drew)); exact HO_11.out⟩, ⟨by (with_reducible repeat (first | refine blk_drewN ?_ _ | refine blk_drew ?_ | refine blk_alloc ?_ _)); exact BK428.out⟩, ⟨by repeat (first | (with_reducible first | exact HB.out | apply below_alloc | apply pw_below_drewN | apply below_drew1 | refine below_set ?_ GE428.out) | exact HB.out)⟩⟩
                                · rw [if_neg c60] at H
                                  have c60b0 : decide (((rd_T32 l1 x13_3).f0) ≤ (rd t434 x15_4)) = false := decide_eq_false c60
                                  clear c60
                                  have H' := Aside0.mk H
                                  clear H
                                  have p452 : 0 ≤ (x13_3 : Int) := of_decide_eq_true (by first | (with_reducible assumption) | assumption)
                                  have q452 : x13_3 < (l1.length : Int) := of_decide_eq_true (by first | (with_reducible assumption) | assumption)
                                  obtain ⟨ad452, e452, hx452_0, hx452_1⟩ := at_T32 HR1.out x13_3 p452 q452
                                  cases e452
                                  replace hx452_0 := (HB.out.cell (World.block_lt_of_cell? w _ hx452_0)).trans hx452_0
                                  replace hx452_1 := (HB.out.cell (World.block_lt_of_cell? w _ hx452_1)).trans hx452_1
                                  replace p452 := eq_true p452
                                  replace q452 := eq_true q452
                                  have p453 : 0 ≤ (x15_4 : Int) := of_decide_eq_true (by first | (with_reducible assumption) | assumption)
                                  have q453 : x15_4 < (t434.length : Int) := of_decide_eq_true (by first | (with_reducible assumption) | assumption)
                                  obtain ⟨ad453, e453, hx453_0⟩ := Kd.at_int (Kd.R_reads' HO_9.out).2.2 x15_4 p453 q453
                                  cases e453
                                  replace p453 := eq_true p453
                                  replace q453 := eq_true q453
                                  go_wp2
                                  repeat (go_quiet (fail); try go_wp2)
                                  go_meet
                                  case rel => exact ⟨_, (false), (by first | rfl | (simp; done) | (simp [*]; done)), H', ⟨by have := HJ10.out; have := HK2.out; have := HK3.out; have := HK4.out; first | omega | exact Nat.le_refl _⟩, ⟨by (with_reducible repeat (first | apply Kd.R_alloc | apply Kd.R_drewN | apply Kd.R_drew)); exact HO_7.out⟩, ⟨by (with_reducible repeat (first | apply Kd.R_alloc | apply Kd.R_drewN | apply Kd.R_drew)); exact HO_9.out⟩, ⟨by (with_reducible repeat (first | apply Kd.R_alloc | apply Kd.R_drewN | apply Kd.R_drew)); exact HO_11.out⟩, ⟨by (with_reducible repeat (first | refine blk_drewN ?_ _ | refine blk_drew ?_ | refine blk_alloc ?_ _)); exact BK428.out⟩, ⟨by repeat (first | (with_reducible first | exact HB.out | apply below_alloc | apply pw_below_drewN | apply below_drew1 | refine below_set ?_ GE428.out) | exact HB.out)⟩⟩
                              · rw [if_neg c59] at H
                                exact absurd H (by simp)
                            · rw [if_neg c58] at H
                              exact absurd H (by simp)
                          · rw [if_neg c57] at H
                            exact absurd H (by simp)
                         case rest =>
                          clear HC55
                          try clear c1
                          try clear c2
                          try clear p2
                          try clear c3
                          try clear q3
                          try clear c4
                          try clear c4b0
                          try clear c4b1
                          try clear p4
                          try clear q4
                          try clear hx4
                          try clear hf4
                          try clear c5
                          try clear c6
                          try clear p6
                          try clear c10
                          try clear c10b0
                          try clear c10b1
                          try clear c17
                          try clear c17b0
                          try clear c17b1
                          try clear c20
                          try clear c21
                          try clear c21b0
                          try clear c21b1
                          try clear c22
                          try clear c22b0
                          try clear c22b1
                          try clear c25
                          try clear c25b0
                          try clear c28
                          try clear c28b0
                          try clear c29
                          try clear c29b0
                          try clear c30
                          try clear c30b0
                          try clear c31
                          try clear c31b0
                          try clear c32
                          try clear c32b0
                          try clear q33
                          try clear c34
                          try clear c36
                          try clear c36b0
                          try clear c37
                          try clear c37b0
                          try clear c44
                          try clear p44
                          try clear q44
                          try clear hx44
                          try clear c45
                          try clear c45b0
                          try clear p45
                          try clear q45
                          try clear hx45
                          try clear c46
                          try clear c46b0
                          try clear c47
                          try clear c47b0
                          try clear c48
                          try clear c48b0
                          try clear p49
                          try clear q49
                          try clear hx49
                          try clear hf49
                          try clear c53
                          try clear c53b0
                          try clear c54
                          try clear c54b0
                          try clear c57
                          try clear c57b0
                          try clear c58
                          try clear c58b0
                          try clear c59
                          try clear c59b0
                          try clear c60
                          try clear c60b0
                          try clear hcz13_0
                          try clear hcz13_1
                          try clear hcz15_0
                          try clear hcz15_1
                          try clear hcz40_0
                          try clear hcz40_1
                          try clear hcz43_0
                          try clear hcz43_1
                          try clear hfz13_0
                          try clear hfz13_1
                          try clear hfz15_0
                          try clear hfz15_1
                          try clear hfz40_0
                          try clear hfz40_1
                          try clear hfz43_0
                          try clear hfz43_1
                          try clear hx444_0
                          try clear hx445_0
                          try clear hx446_0
                          try clear hx447_0
                          try clear hx448_0
                          try clear hx449_0
                          try clear hx450_0
                          try clear hx452_0
                          try clear hx452_1
                          try clear hx453_0
                          try clear hx454_0
                          try clear hx455_0
                          try clear hx455_1
                          try clear hx49_0
                          try clear p2
                          try clear p4
                          try clear p44
                          try clear p444
                          try clear p445
                          try clear p446
                          try clear p447
                          try clear p448
                          try clear p449
                          try clear p45
                          try clear p450
                          try clear p452
                          try clear p453
                          try clear p454
                          try clear p455
                          try clear p49
                          try clear p6
                          try clear q3
                          try clear q33
                          try clear q4
                          try clear q44
                          try clear q444
                          try clear q445
                          try clear q446
                          try clear q447
                          try clear q448
                          try clear q449
                          try clear q45
                          try clear q450
                          try clear q452
                          try clear q453
                          try clear q454
                          try clear q455
                          try clear q49
                          obtain ⟨kq, x161_54, rfl, HA, HJ54, HO_7, HO_9, HO_11, BK428, HB⟩ := hcut
                          cases kq with
                          | zero => exact absurd HA.out (by simp [kimberlitelaw01_SpanFewest.j5])
                          | succ kj54 =>
                           have H := HA.out
                           clear HA
                           simp only [kimberlitelaw01_SpanFewest.j5] at H
                           by_cases c61 : x161_54 = true
                           · subst c61
                             have H1 : (kimberlitelaw01_SpanFewest.l2 kj54 l1 l2 t430 t434 x11_2 x13_3 (wrap64 (x14_4 + 1)) (wrap64 (x15_4 + 1)) a0_0 a0_1) = some r := by rw [if_pos rfl] at H; exact H
                             clear H
                             have H := H1
                             clear H1
                             have H' := Aside0.mk H
                             clear H
                             go_wp2
                             go_roundg kj54
                             case measure => have := HJ10.out; have := HK2.out; have := HK3.out; have := HK4.out; have := HJ54.out; omega
                             case rel => exact ⟨(wrap64 (x14_4 + 1)), (wrap64 (x15_4 + 1)), (by first | rfl | (simp; done) | (simp [*]; done)), (by first | rfl | (simp; done) | (simp [*]; done)), H', ⟨by have := HJ10.out; have := HK2.out; have := HK3.out; have := HK4.out; have := HJ54.out; omega⟩, ⟨by (with_reducible repeat (first | apply Kd.R_alloc | apply Kd.R_drewN | apply Kd.R_drew)); exact HO_7.out⟩, ⟨by (with_reducible repeat (first | apply Kd.R_alloc | apply Kd.R_drewN | apply Kd.R_drew)); exact HO_9.out⟩, ⟨by (with_reducible repeat (first | apply Kd.R_alloc | apply Kd.R_drewN | apply Kd.R_drew)); exact HO_11.out⟩, ⟨by (with_reducible repeat (first | refine blk_drewN ?_ _ | refine blk_drew ?_ | refine blk_alloc ?_ _)); exact BK428.out⟩, ⟨by repeat (first | (with_reducible first | exact HB.out | apply below_alloc | apply pw_below_drewN | apply below_drew1 | refine below_set ?_ GE428.out) | exact HB.out)⟩⟩
                           · replace c61 := Bool.eq_false_iff.mpr c61
                             subst c61
                             have H1 : (kimberlitelaw01_SpanFewest.l2 kj54 l1 l2 t430 t434 x11_2 x13_3 x14_4 (wrap64 (x15_4 + 1)) a0_0 a0_1) = some r := by rw [if_neg (show ¬ (false = true) by decide)] at H; exact H
                             clear H
                             have H := H1
                             clear H1
                             have H' := Aside0.mk H
                             clear H
                             go_wp2
                             go_roundg kj54
                             case measure => have := HJ10.out; have := HK2.out; have := HK3.out; have := HK4.out; have := HJ54.out; omega
                             case rel => exact ⟨(x14_4), (wrap64 (x15_4 + 1)), (by first | rfl | (simp; done) | (simp [*]; done)), (by first | rfl | (simp; done) | (simp [*]; done)), H', ⟨by have := HJ10.out; have := HK2.out; have := HK3.out; have := HK4.out; have := HJ54.out; omega⟩, ⟨by (with_reducible repeat (first | apply Kd.R_alloc | apply Kd.R_drewN | apply Kd.R_drew)); exact HO_7.out⟩, ⟨by (with_reducible repeat (first | apply Kd.R_alloc | apply Kd.R_drewN | apply Kd.R_drew)); exact HO_9.out⟩, ⟨by (with_reducible repeat (first | apply Kd.R_alloc | apply Kd.R_drewN | apply Kd.R_drew)); exact HO_11.out⟩, ⟨by (with_reducible repeat (first | refine blk_drewN ?_ _ | refine blk_drew ?_ | refine blk_alloc ?_ _)); exact BK428.out⟩, ⟨by repeat (first | (with_reducible first | exact HB.out | apply below_alloc | apply pw_below_drewN | apply below_drew1 | refine below_set ?_ GE428.out) | exact HB.out)⟩⟩
                       · rw [if_neg c54] at H
                         have c54b0 : decide (x15_4 < (t434.length : Int)) = false := decide_eq_false c54
                         clear c54
                         by_cases c62 : x14_4 > 1
                         · rw [if_pos c62] at H
                           have c62b0 : decide (1 < x14_4) = true := decide_eq_true c62
                           clear c62
                           obtain rfl := Option.some.inj H
                           obtain ⟨Ao63, co63, eo63⟩ := Kd.R_slice HO_9.out
                           subst eo63
                           go_wp2
                           go_ret
                           exact ⟨by first | rfl | (simp [errW_none, errW_some] <;> rfl) | (simp [*, errW_none, errW_some] <;> rfl), by repeat (first | (with_reducible first | exact HB.out | apply below_alloc | apply pw_below_drewN | apply below_drew1 | refine below_set ?_ GE428.out) | exact HB.out)⟩
                         · rw [if_neg c62] at H
                           have c62b0 : decide (1 < x14_4) = false := decide_eq_false c62
                           clear c62
                           have H' := Aside0.mk H
                           clear H
                           obtain ⟨Ao64, co64, eo64⟩ := Kd.R_slice HO_9.out
                           subst eo64
                           go_wp2
                           go_roundg k4
                           case measure => have := HJ10.out; have := HK2.out; have := HK3.out; have := HK4.out; omega
                           case rel => exact ⟨(wrap64 (x13_3 + 1)), (by first | rfl | (simp; done) | (simp [*]; done)), H', ⟨by have := HJ10.out; have := HK2.out; have := HK3.out; have := HK4.out; omega⟩, ⟨by (with_reducible repeat (first | apply Kd.R_alloc | apply Kd.R_drewN | apply Kd.R_drew)); exact HO_7.out⟩, ⟨by (with_reducible repeat (first | apply Kd.R_alloc | apply Kd.R_drewN | apply Kd.R_drew)); exact HO_9.out⟩, ⟨by (with_reducible repeat (first | apply Kd.R_alloc | apply Kd.R_drewN | apply Kd.R_drew)); exact HO_11.out⟩, ⟨by (with_reducible repeat (first | refine blk_drewN ?_ _ | refine blk_drew ?_ | refine blk_alloc ?_ _)); exact BK428.out⟩, ⟨by repeat (first | (with_reducible first | exact HB.out | apply below_alloc | apply pw_below_drewN | apply below_drew1 | refine below_set ?_ GE428.out) | exact HB.out)⟩⟩
                   · rw [if_neg c53] at H
                     have c53b0 : decide (x13_3 < (l1.length : Int)) = false := decide_eq_false c53
                     clear c53
                     by_cases c65 : 0 ≤ (l1.length : Int)
                     · rw [if_pos c65] at H
                       have c65b0 := eq_true c65
                       have c65b1 : decide (0 ≤ (l1.length : Int)) = true := decide_eq_true c65
                       clear c65
                       by_cases c66 : ((l1.length : Int) : Int).toNat ≤ 281474976710656
                       · rw [if_pos c66] at H
                         have c66b0 := eq_true c66
                         have c66b1 : decide (((l1.length : Int) : Int).toNat ≤ 281474976710656) = true := decide_eq_true c66
                         clear c66
                         obtain ⟨y456, hy456⟩ : ∃ y_ : List Bool, y_ = (List.replicate ((l1.length : Int) : Int).toNat false) := ⟨_, rfl⟩
                         replace H : (kimberlitelaw01_SpanFewest.l3 k3 l1 l2 t430 x11_2 0 y456 0 a0_0 a0_1) = some r := by first | (rw [hy456]; with_reducible exact H) | (have H2_ := (Option.bind_some _ _).symm.trans H; rw [hy456]; with_reducible exact H2_) | (have H2_ := (Option.bind_some _ _).symm.trans H; with_reducible exact H2_) | with_reducible exact H | (rw [hy456]; exact H) | exact H
                         have Ny456 := Aside0.mk hy456
                         clear hy456
                         have H' := Aside0.mk H
                         clear H
                         go_wp2_with (first | ((with_reducible refine gate_dst (N := 168) rfl ?_); (try (refine gate_guard (by rfl) ?_; dsimp only)); refine Kd.R_make Kd.bool _ 4 rfl (N := 168) rfl 40 _ _ rfl (l1.length : Int) rfl rfl Try.underlying40 (.bool false) 1 info4 rfl (by decide) (by omega) false (ok := fun _ => True) (okp := fun _ => True) rfl (fun _ hk => hk) trivial (of_decide_eq_true (by first | (with_reducible assumption) | assumption)) (Nat.le_trans (Nat.mul_le_mul_right _ (of_decide_eq_true (by first | (with_reducible assumption) | assumption) : (l1.length : Int).toNat ≤ 281474976710656)) (by omega)) (Below.refl _ _) (Nat.le_refl _) ?_; intro v457 w67 ho68 hb hg_ hnew_; clear hg_ hnew_; (first | rw [← Ny456.out] at ho68 | (simp only [Int.reduceToNat] at ho68; rw [← Ny456.out] at ho68)); have n0_ := Aside0.mk (Kd.R_below (by (with_reducible repeat (first | apply Kd.R_alloc | apply Kd.R_drewN | apply Kd.R_drew)); exact HO_7.out) hb); have n1_ := Aside0.mk (Kd.R_below (by (with_reducible repeat (first | apply Kd.R_alloc | apply Kd.R_drewN | apply Kd.R_drew)); exact HO_9.out) hb); have n2_ := Aside0.mk (Kd.R_elder' (by (with_reducible repeat (first | apply Kd.R_alloc | apply Kd.R_drewN | apply Kd.R_drew)); exact HO_11.out) (Kd.R_base ho68) hb); have n3_ := Aside0.mk (Kd.R_lower (Kd.R_new' ho68 (Kd.R_lt (by (with_reducible repeat (first | apply Kd.R_alloc | apply Kd.R_drewN | apply Kd.R_drew)); exact HO_11.out))) (below_size (by repeat (first | (with_reducible first | exact HB.out | apply below_alloc | apply pw_below_drewN | apply below_drew1 | refine below_set ?_ GE428.out) | exact HB.out)))); have n4_ := Aside0.mk (blk_below (g := gb428) (o := .cells #[.int .i64 a0_0, .int .i64 a0_1] 32 (0, 0)) (by (with_reducible repeat (first | refine blk_drewN ?_ _ | refine blk_drew ?_ | refine blk_alloc ?_ _)); exact BK428.out) hb); have n5_ := Aside0.mk (below_step (by repeat (first | (with_reducible first | exact HB.out | apply below_alloc | apply pw_below_drewN | apply below_drew1 | refine below_set ?_ GE428.out) | exact HB.out)) hb); clear HO_7; clear HO_9; clear HO_11; clear BK428; clear HB; have HO_7 := n0_; have HO_9 := n1_; have HO_11 := n2_; have HO458 := n3_; have BK428 := n4_; have HB := n5_; clear n0_ n1_ n2_ n3_ n4_ n5_; clear hb ho68))
                         go_loopg [16, 18] k3 (fun kq v16 v18 w' => ∃ (x16_4 : Int) (x17_4 : List Bool) (x18_4 : Int), v16 = .int .i64 x16_4 ∧ v18 = .int .i64 x18_4 ∧ Aside0 (kimberlitelaw01_SpanFewest.l3 kq l1 l2 t430 x11_2 x16_4 x17_4 x18_4 a0_0 a0_1 = some r) ∧ Aside0 (kq ≤ k3) ∧ Aside0 (Kd.R (Kd.int .i64) 3 w' w.heap.size (fun _ => True) (.slice Ao52 t430.length co52) t430) ∧ Aside0 (Kd.R Kd.bool 4 w' w.heap.size (fun k_ => some k_ ≠ (v457 : Value).ownBlock) v442 x11_2) ∧ Aside0 (Kd.R Kd.bool 4 w' w.heap.size (fun k_ => some k_ ≠ (v442 : Value).ownBlock) v457 x17_4) ∧ Aside0 (w'.heap[gb428]? = some (.cells #[.int .i64 a0_0, .int .i64 a0_1] 32 (0, 0))) ∧ Aside0 (Below w.heap.size w w'))
                         case atStart => exact ⟨(0), (y456), (0), (by first | rfl | (simp; done) | (simp [*]; done)), (by first | rfl | (simp; done) | (simp [*]; done)), H', ⟨Nat.le_refl _⟩, ⟨by (with_reducible repeat (first | apply Kd.R_alloc | apply Kd.R_drewN | apply Kd.R_drew)); exact Kd.R_mono HO_7.out (fun _ hk => trivial)⟩, ⟨by (with_reducible repeat (first | apply Kd.R_alloc | apply Kd.R_drewN | apply Kd.R_drew)); exact Kd.R_mono HO_11.out (fun _ hk => hk.2)⟩, ⟨by (with_reducible repeat (first | apply Kd.R_alloc | apply Kd.R_drewN | apply Kd.R_drew)); exact Kd.R_mono HO458.out (fun _ hk => hk.2)⟩, ⟨by (with_reducible repeat (first | refine blk_drewN ?_ _ | refine blk_drew ?_ | refine blk_alloc ?_ _)); exact BK428.out⟩, ⟨by repeat (first | (with_reducible first | exact HB.out | apply below_alloc | apply pw_below_drewN | apply below_drew1 | refine below_set ?_ GE428.out) | exact HB.out)⟩⟩
                         case round =>
                          clear H'
                          try clear c1
                          try clear c2
                          try clear p2
                          try clear c3
                          try clear q3
                          try clear c4
                          try clear c4b0
                          try clear c4b1
                          try clear p4
                          try clear q4
                          try clear hx4
                          try clear hf4
                          try clear c5
                          try clear c6
                          try clear p6
                          try clear c10
                          try clear c10b0
                          try clear c10b1
                          try clear c17
                          try clear c17b0
                          try clear c17b1
                          try clear c20
                          try clear c21
                          try clear c21b0
                          try clear c21b1
                          try clear c22
                          try clear c22b0
                          try clear c22b1
                          try clear c25
                          try clear c25b0
                          try clear c28
                          try clear c28b0
                          try clear c29
                          try clear c29b0
                          try clear c30
                          try clear c30b0
                          try clear c31
                          try clear c31b0
                          try clear c32
                          try clear c32b0
                          try clear q33
                          try clear c34
                          try clear c36
                          try clear c36b0
                          try clear c37
                          try clear c37b0
                          try clear c44
                          try clear p44
                          try clear q44
                          try clear hx44
                          try clear c45
                          try clear c45b0
                          try clear p45
                          try clear q45
                          try clear hx45
                          try clear c46
                          try clear c46b0
                          try clear c47
                          try clear c47b0
                          try clear c48
                          try clear c48b0
                          try clear p49
                          try clear q49
                          try clear hx49
                          try clear hf49
                          try clear c53
                          try clear c53b0
                          try clear c54
                          try clear c54b0
                          try clear c57
                          try clear c57b0
                          try clear c58
                          try clear c58b0
                          try clear c59
                          try clear c59b0
                          try clear c60
                          try clear c60b0
                          try clear c61
                          try clear c62
                          try clear c62b0
                          try clear p64
                          try clear c65
                          try clear c65b0
                          try clear c65b1
                          try clear c66
                          try clear c66b0
                          try clear c66b1
                          try clear hcz13_0
                          try clear hcz13_1
                          try clear hcz15_0
                          try clear hcz15_1
                          try clear hcz40_0
                          try clear hcz40_1
                          try clear hcz43_0
                          try clear hcz43_1
                          try clear hfz13_0
                          try clear hfz13_1
                          try clear hfz15_0
                          try clear hfz15_1
                          try clear hfz40_0
                          try clear hfz40_1
                          try clear hfz43_0
                          try clear hfz43_1
                          try clear hx444_0
                          try clear hx445_0
                          try clear hx446_0
                          try clear hx447_0
                          try clear hx448_0
                          try clear hx449_0
                          try clear hx450_0
                          try clear hx452_0
                          try clear hx452_1
                          try clear hx453_0
                          try clear hx454_0
                          try clear hx455_0
                          try clear hx455_1
                          try clear hx49_0
                          try clear p2
                          try clear p4
                          try clear p44
                          try clear p444
                          try clear p445
                          try clear p446
                          try clear p447
                          try clear p448
                          try clear p449
                          try clear p45
                          try clear p450
                          try clear p452
                          try clear p453
                          try clear p454
                          try clear p455
                          try clear p49
                          try clear p6
                          try clear q3
                          try clear q33
                          try clear q4
                          try clear q44
                          try clear q444
                          try clear q445
                          try clear q446
                          try clear q447
                          try clear q448
                          try clear q449
                          try clear q45
                          try clear q450
                          try clear q452
                          try clear q453
                          try clear q454
                          try clear q455
                          try clear q49
                          obtain ⟨x16_4, x17_4, x18_4, rfl, rfl, HA, HK4, HO_7, HO_11, HO_17, BK428, HB⟩ := hrel
                          cases gk with
                          | zero => exact absurd HA.out (by simp [kimberlitelaw01_SpanFewest.l3])
                          | succ k4 =>
                           have H := HA.out
                           clear HA
                           simp only [kimberlitelaw01_SpanFewest.l3] at H
                           have HC69 := Aside0.mk H
                           clear H
                           go_upto_region 30 with (fail)
                           go_cut [178] (fun v178 wc => ∃ (kq : Nat) (x178_68 : Bool), v178 = .bool x178_68 ∧ Aside0 (kimberlitelaw01_SpanFewest.j7 kq l1 l2 t430 x11_2 x16_4 x17_4 x18_4 x178_68 a0_0 a0_1 = some r) ∧ Aside0 (kq ≤ k4) ∧ Aside0 (Kd.R (Kd.int .i64) 3 wc w.heap.size (fun _ => True) (.slice Ao52 t430.length co52) t430) ∧ Aside0 (Kd.R Kd.bool 4 wc w.heap.size (fun k_ => some k_ ≠ (v457 : Value).ownBlock) v442 x11_2) ∧ Aside0 (Kd.R Kd.bool 4 wc w.heap.size (fun k_ => some k_ ≠ (v442 : Value).ownBlock) v457 x17_4) ∧ Aside0 (wc.heap[gb428]? = some (.cells #[.int .i64 a0_0, .int .i64 a0_1] 32 (0, 0))) ∧ Aside0 (Below w.heap.size w wc))
                           case first =>
                            have H := HC69.out
                            clear HC69
                            by_cases c70 : x18_4 < (l1.length : Int)
                            · rw [if_pos c70] at H
                              have c70b0 : decide (x18_4 < (l1.length : Int)) = true := decide_eq_true c70
                              clear c70
                              (first | rw [c70b0] | (simp only [i64_w, i32_w]; rw [c70b0]) | skip)
                              have H' := Aside0.mk H
                              clear H
                              go_wp2
                              go_meet
                              case rel => exact ⟨_, (decide (x18_4 < (l2.length : Int))), (by first | rfl | (simp; done) | (simp [*]; done)), H', ⟨by have := HJ10.out; have := HK2.out; have := HK3.out; have := HK4.out; first | omega | exact Nat.le_refl _⟩, ⟨by (with_reducible repeat (first | apply Kd.R_alloc | apply Kd.R_drewN | apply Kd.R_drew)); exact HO_7.out⟩, ⟨by (with_reducible repeat (first | apply Kd.R_alloc | apply Kd.R_drewN | apply Kd.R_drew)); exact HO_11.out⟩, ⟨by (with_reducible repeat (first | apply Kd.R_alloc | apply Kd.R_drewN | apply Kd.R_drew)); exact HO_17.out⟩, ⟨by (with_reducible repeat (first | refine blk_drewN ?_ _ | refine blk_drew ?_ | refine blk_alloc ?_ _)); exact BK428.out⟩, ⟨by repeat (first | (with_reducible first | exact HB.out | apply below_alloc | apply pw_below_drewN | apply below_drew1 | refine below_set ?_ GE428.out) | exact HB.out)⟩⟩
                            · rw [if_neg c70] at H
                              have c70b0 : decide (x18_4 < (l1.length : Int)) = false := decide_eq_false c70
                              clear c70
                              (first | rw [c70b0] | (simp only [i64_w, i32_w]; rw [c70b0]) | skip)
                              have H' := Aside0.mk H
                              clear H
                              go_wp2
                              go_meet
                              case rel => exact ⟨_, (false), (by first | rfl | (simp; done) | (simp [*]; done)), H', ⟨by have := HJ10.out; have := HK2.out; have := HK3.out; have := HK4.out; first | omega | exact Nat.le_refl _⟩, ⟨by (with_reducible repeat (first | apply Kd.R_alloc | apply Kd.R_drewN | apply Kd.R_drew)); exact HO_7.out⟩, ⟨by (with_reducible repeat (first | apply Kd.R_alloc | apply Kd.R_drewN | apply Kd.R_drew)); exact HO_11.out⟩, ⟨by (with_reducible repeat (first | apply Kd.R_alloc | apply Kd.R_drewN | apply Kd.R_drew)); exact HO_17.out⟩, ⟨by (with_reducible repeat (first | refine blk_drewN ?_ _ | refine blk_drew ?_ | refine blk_alloc ?_ _)); exact BK428.out⟩, ⟨by repeat (first | (with_reducible first | exact HB.out | apply below_alloc | apply pw_below_drewN | apply below_drew1 | refine below_set ?_ GE428.out) | exact HB.out)⟩⟩
                           case rest =>
                            clear HC69
                            try clear c1
                            try clear c2
                            try clear p2
                            try clear c3
                            try clear q3
                            try clear c4
                            try clear c4b0
                            try clear c4b1
                            try clear p4
                            try clear q4
                            try clear hx4
                            try clear hf4
                            try clear c5
                            try clear c6
                            try clear p6
                            try clear c7
                            try clear c10
                            try clear c10b0
                            try clear c10b1
                            try clear c17
                            try clear c17b0
                            try clear c17b1
                            try clear c20
                            try clear c21
                            try clear c21b0
                            try clear c21b1
                            try clear c22
                            try clear c22b0
                            try clear c22b1
                            try clear c25
                            try clear c25b0
                            try clear c28
                            try clear c28b0
                            try clear c29
                            try clear c29b0
                            try clear c30
                            try clear c30b0
                            try clear c31
                            try clear c31b0
                            try clear c32
                            try clear c32b0
                            try clear q33
                            try clear c34
                            try clear c36
                            try clear c36b0
                            try clear c37
                            try clear c37b0
                            try clear c44
                            try clear p44
                            try clear q44
                            try clear hx44
                            try clear c45
                            try clear c45b0
                            try clear p45
                            try clear q45
                            try clear hx45
                            try clear c46
                            try clear c46b0
                            try clear c47
                            try clear c47b0
                            try clear c48
                            try clear c48b0
                            try clear p49
                            try clear q49
                            try clear hx49
                            try clear hf49
                            try clear c53
                            try clear c53b0
                            try clear c54
                            try clear c54b0
                            try clear c57
                            try clear c57b0
                            try clear c58
                            try clear c58b0
                            try clear c59
                            try clear c59b0
                            try clear c60
                            try clear c60b0
                            try clear c61
                            try clear c62
                            try clear c62b0
                            try clear p64
                            try clear c65
                            try clear c65b0
                            try clear c65b1
                            try clear c66
                            try clear c66b0
                            try clear c66b1
                            try clear c70
                            try clear c70b0
                            try clear hcz13_0
                            try clear hcz13_1
                            try clear hcz15_0
                            try clear hcz15_1
                            try clear hcz40_0
                            try clear hcz40_1
                            try clear hcz43_0
                            try clear hcz43_1
                            try clear hfz13_0
                            try clear hfz13_1
                            try clear hfz15_0
                            try clear hfz15_1
                            try clear hfz40_0
                            try clear hfz40_1
                            try clear hfz43_0
                            try clear hfz43_1
                            try clear hx444_0
                            try clear hx445_0
                            try clear hx446_0
                            try clear hx447_0
                            try clear hx448_0
                            try clear hx449_0
                            try clear hx450_0
                            try clear hx452_0
                            try clear hx452_1
                            try clear hx453_0
                            try clear hx454_0
                            try clear hx455_0
                            try clear hx455_1
                            try clear hx49_0
                            try clear p2
                            try clear p4
                            try clear p44
                            try clear p444
                            try clear p445
                            try clear p446
                            try clear p447
                            try clear p448
                            try clear p449
                            try clear p45
                            try clear p450
                            try clear p452
                            try clear p453
                            try clear p454
                            try clear p455
                            try clear p49
                            try clear p6
                            try clear p64
                            try clear q3
                            try clear q33
                            try clear q4
                            try clear q44
                            try clear q444
                            try clear q445
                            try clear q446
                            try clear q447
                            try clear q448
                            try clear q449
                            try clear q45
                            try clear q450
                            try clear q452
                            try clear q453
                            try clear q454
                            try clear q455
                            try clear q49
                            obtain ⟨kq, x178_68, rfl, HA, HJ68, HO_7, HO_11, HO_17, BK428, HB⟩ := hcut
                            cases kq with
                            | zero => exact absurd HA.out (by simp [kimberlitelaw01_SpanFewest.j7])
                            | succ kj68 =>
                             have H := HA.out
                             clear HA
                             simp only [kimberlitelaw01_SpanFewest.j7] at H
                             by_cases c71 : x178_68 = true
                             · subst c71
                               have H1 : (if 0 ≤ x18_4 then (if x18_4 < (l2.length : Int) then (if x18_4 < (x17_4.length : Int) then ((some (x17_4.set (x18_4 : Int).toNat (rdOf false l2 x18_4) : List Bool)).bind fun y460 => (if rdOf false l2 x18_4 = true then (kimberlitelaw01_SpanFewest.l3 kj68 l1 l2 t430 x11_2 (wrap64 (x16_4 + 1)) y460 (wrap64 (x18_4 + 1)) a0_0 a0_1) else (kimberlitelaw01_SpanFewest.l3 kj68 l1 l2 t430 x11_2 x16_4 y460 (wrap64 (x18_4 + 1)) a0_0 a0_1))) else (none)) else (none)) else (none)) = some r := by rw [if_pos rfl] at H; exact H
                               clear H
                               have H := H1
                               clear H1
                               by_cases c72 : 0 ≤ x18_4
                               · rw [if_pos c72] at H
                                 have c72b0 : decide (0 ≤ x18_4) = true := decide_eq_true c72
                                 clear c72
                                 by_cases c73 : x18_4 < (l2.length : Int)
                                 · rw [if_pos c73] at H
                                   have c73b0 : decide (x18_4 < (l2.length : Int)) = true := decide_eq_true c73
                                   clear c73
                                   by_cases c74 : x18_4 < (x17_4.length : Int)
                                   · rw [if_pos c74] at H
                                     have c74b0 : decide (x18_4 < (x17_4.length : Int)) = true := decide_eq_true c74
                                     clear c74
                                     obtain ⟨y460, hy460⟩ : ∃ y_ : List Bool, y_ = (x17_4.set (x18_4 : Int).toNat (rdOf false l2 x18_4)) := ⟨_, rfl⟩
                                     replace H : (if rdOf false l2 x18_4 = true then (kimberlitelaw01_SpanFewest.l3 kj68 l1 l2 t430 x11_2 (wrap64 (x16_4 + 1)) y460 (wrap64 (x18_4 + 1)) a0_0 a0_1) else (kimberlitelaw01_SpanFewest.l3 kj68 l1 l2 t430 x11_2 x16_4 y460 (wrap64 (x18_4 + 1)) a0_0 a0_1)) = some r := by first | (rw [hy460]; with_reducible exact H) | (have H2_ := (Option.bind_some _ _).symm.trans H; rw [hy460]; with_reducible exact H2_) | (have H2_ := (Option.bind_some _ _).symm.trans H; with_reducible exact H2_) | with_reducible exact H | (rw [hy460]; exact H) | exact H
                                     have Ny460 := Aside0.mk hy460
                                     clear hy460
                                     obtain ⟨bq76, hbq76⟩ : ∃ b_ : Bool, b_ = (rdOf false l2 x18_4) := ⟨_, rfl⟩
                                     replace H : (if bq76 = true then (kimberlitelaw01_SpanFewest.l3 kj68 l1 l2 t430 x11_2 (wrap64 (x16_4 + 1)) y460 (wrap64 (x18_4 + 1)) a0_0 a0_1) else (kimberlitelaw01_SpanFewest.l3 kj68 l1 l2 t430 x11_2 x16_4 y460 (wrap64 (x18_4 + 1)) a0_0 a0_1)) = some r := by rw [← hbq76] at H; exact H
                                     have Nbq76 := Aside0.mk hbq76
                                     clear hbq76
                                     by_cases c77 : bq76 = true
                                     · subst c77
                                       have H1 : (kimberlitelaw01_SpanFewest.l3 kj68 l1 l2 t430 x11_2 (wrap64 (x16_4 + 1)) y460 (wrap64 (x18_4 + 1)) a0_0 a0_1) = some r := by rw [if_pos rfl] at H; exact H
                                       clear H
                                       have H := H1
                                       clear H1
                                       have H' := Aside0.mk H
                                       clear H
                                       have p459 : 0 ≤ (x18_4 : Int) := of_decide_eq_true (by first | (with_reducible assumption) | assumption)
                                       have q459 : x18_4 < (l2.length : Int) := of_decide_eq_true (by first | (with_reducible assumption) | assumption)
                                       obtain ⟨ad459, e459, hx459_0⟩ := Kd.at_bool HR2.out x18_4 p459 q459
                                       (try rw [← Nbq76.out] at hx459_0)
                                       cases e459
                                       replace hx459_0 := (HB.out.cell (World.block_lt_of_cell? w _ hx459_0)).trans hx459_0
                                       replace p459 := eq_true p459
                                       replace q459 := eq_true q459
                                       have p75 : 0 ≤ (x18_4 : Int) := of_decide_eq_true (by first | (with_reducible assumption) | assumption)
                                       have q75 : (x18_4 : Int) < ((x17_4.length : Int) : Int) := of_decide_eq_true (by first | (with_reducible assumption) | assumption)
                                       obtain ⟨go75, co75, eo75, gb75, gl75, cl75, HG75⟩ := Kd.R_form HO_17.out (by omega)
                                       (first | cases eo75 | (injection eo75 with ea_ en_ ec_; (first | subst ea_ | (injection ea_ with ea_; subst ea_)); subst ec_; clear en_))
                                       have GB75 := Aside0.mk gb75
                                       have GG75 := Aside0.mk HG75
                                       clear gb75 gl75 HG75
                                       obtain ⟨hx75_0, hf75_0⟩ := Kd.R_celln false HO_17.out (x18_4 : Int) p75 q75
                                       replace p75 := eq_true p75
                                       replace q75 := eq_true q75
                                       have HP78 := Kd.R_putg HO_17.out (x18_4 : Int) true
                                       go_wp2_with (first | ((with_reducible refine gate_store (t := 4) (p := 187) rfl ?_); (try (rw [drewN_self wc]; generalize hq_ : World.drewN wc _ = wc; have n0_ := Aside0.mk (Kd.R_at hq_ HO_7.out); have n1_ := Aside0.mk (Kd.R_at hq_ HO_11.out); have n2_ := Aside0.mk (Kd.R_at hq_ HO_17.out); have n3_ := Aside0.mk (blk_at hq_ BK428.out); have n4_ := Aside0.mk (below_at hq_ HB.out); clear hq_ HO_7 HO_11 HO_17 BK428 HB; have HO_7 := n0_; have HO_11 := n1_; have HO_17 := n2_; have BK428 := n3_; have HB := n4_; clear n0_ n1_ n2_ n3_ n4_; (try (have HP78 := Kd.R_putg HO_17.out (x18_4 : Int) true)))); refine store_event (t := 4) (p := 187) (v := ?vo_w79) (w1 := (wc.setCell ⟨go75, (x18_4 : Int).toNat, none⟩ (.bool true))) ?hg ?ho ?hn ?hr ?_; (case ho => rfl); (case hg => rfl); (case hn => rfl); (case hr => first | (go_simp; done) | (go_simp; rfl)); intro w79 hw; have hg : wc.grownBy w79 (some go75) := (by rw [hw]; exact HP78.2); have hp_ : Kd.R Kd.bool 4 w79 w.heap.size (fun k_ => some k_ ≠ (v442 : Value).ownBlock) (.slice (some ⟨go75, 0, none⟩) x17_4.length co75) y460 := (by rw [hw, Ny460.out]; first | exact HP78.1 | (rw [← Nbq76.out]; exact HP78.1)); clear HP78; have n0_ := Aside0.mk (Kd.R_over' (v := (.slice (some ⟨go75, 0, none⟩) x17_4.length co75)) (by (with_reducible repeat (first | apply Kd.R_alloc | apply Kd.R_drewN | apply Kd.R_drew)); exact HO_7.out) (Kd.R_typed HO_17.out) (by decide) hg); have n1_ := Aside0.mk (Kd.R_after (v := (.slice (some ⟨go75, 0, none⟩) x17_4.length co75)) (v1 := (.slice (some ⟨go75, 0, none⟩) x17_4.length co75)) (ok := (fun _ => True)) (by (with_reducible repeat (first | apply Kd.R_alloc | apply Kd.R_drewN | apply Kd.R_drew)); exact Kd.R_mono HO_11.out (fun _ hk => ⟨trivial, hk⟩)) hg (.inl rfl)); have n2_ := Aside0.mk (hp_); have n3_ := Aside0.mk (blk_grown (g := gb428) (o := .cells #[.int .i64 a0_0, .int .i64 a0_1] 32 (0, 0)) (by (with_reducible repeat (first | refine blk_drewN ?_ _ | refine blk_drew ?_ | refine blk_alloc ?_ _)); exact BK428.out) hg (Kd.R_ne HO_17.out BK428.out (by decide))); have n4_ := Aside0.mk ((by rw [hw]; exact below_set (HB.out) GB75.out : Below w.heap.size w w79)); clear HO_7; clear HO_11; clear HO_17; clear BK428; clear HB; have HO_7 := n0_; have HO_11 := n1_; have HO_17 := n2_; have BK428 := n3_; have HB := n4_; clear n0_ n1_ n2_ n3_ n4_; clear hg hw hp_; have p461 : 0 ≤ (x18_4 : Int) := of_decide_eq_true (by first | (with_reducible assumption) | assumption); have q461 : x18_4 < (l2.length : Int) := of_decide_eq_true (by first | (with_reducible assumption) | assumption); obtain ⟨ad461, e461, hx461_0⟩ := Kd.at_bool HR2.out x18_4 p461 q461; (try rw [← Nbq76.out] at hx461_0); obtain rfl : ad459 = ad461 := (by injection e461); replace hx461_0 := (HB.out.cell (World.block_lt_of_cell? w _ hx461_0)).trans hx461_0; replace p461 := eq_true p461; replace q461 := eq_true q461))
                                       go_roundg kj68
                                       case measure => have := HJ10.out; have := HK2.out; have := HK3.out; have := HK4.out; have := HJ68.out; omega
                                       case rel => exact ⟨(wrap64 (x16_4 + 1)), (y460), (wrap64 (x18_4 + 1)), (by first | rfl | (simp; done) | (simp [*]; done)), (by first | rfl | (simp; done) | (simp [*]; done)), H', ⟨by have := HJ10.out; have := HK2.out; have := HK3.out; have := HK4.out; have := HJ68.out; omega⟩, ⟨by (with_reducible repeat (first | apply Kd.R_alloc | apply Kd.R_drewN | apply Kd.R_drew)); exact HO_7.out⟩, ⟨by (with_reducible repeat (first | apply Kd.R_alloc | apply Kd.R_drewN | apply Kd.R_drew)); exact Kd.R_mono HO_11.out (fun _ hk => hk.2)⟩, ⟨by (with_reducible repeat (first | apply Kd.R_alloc | apply Kd.R_drewN | apply Kd.R_drew)); exact HO_17.out⟩, ⟨by (with_reducible repeat (first | refine blk_drewN ?_ _ | refine blk_drew ?_ | refine blk_alloc ?_ _)); exact BK428.out⟩, ⟨by repeat (first | (with_reducible first | exact HB.out | apply below_alloc | apply pw_below_drewN | apply below_drew1 | refine below_set ?_ GE428.out) | exact HB.out)⟩⟩
                                     · replace c77 := Bool.eq_false_iff.mpr c77
                                       subst c77
                                       have H1 : (kimberlitelaw01_SpanFewest.l3 kj68 l1 l2 t430 x11_2 x16_4 y460 (wrap64 (x18_4 + 1)) a0_0 a0_1) = some r := by rw [if_neg (show ¬ (false = true) by decide)] at H; exact H
                                       clear H
                                       have H := H1
                                       clear H1
                                       have H' := Aside0.mk H
                                       clear H
                                       have p459 : 0 ≤ (x18_4 : Int) := of_decide_eq_true (by first | (with_reducible assumption) | assumption)
                                       have q459 : x18_4 < (l2.length : Int) := of_decide_eq_true (by first | (with_reducible assumption) | assumption)
                                       obtain ⟨ad459, e459, hx459_0⟩ := Kd.at_bool HR2.out x18_4 p459 q459
                                       (try rw [← Nbq76.out] at hx459_0)
                                       cases e459
                                       replace hx459_0 := (HB.out.cell (World.block_lt_of_cell? w _ hx459_0)).trans hx459_0
                                       replace p459 := eq_true p459
                                       replace q459 := eq_true q459
                                       have p75 : 0 ≤ (x18_4 : Int) := of_decide_eq_true (by first | (with_reducible assumption) | assumption)
                                       have q75 : (x18_4 : Int) < ((x17_4.length : Int) : Int) := of_decide_eq_true (by first | (with_reducible assumption) | assumption)
                                       obtain ⟨go75, co75, eo75, gb75, gl75, cl75, HG75⟩ := Kd.R_form HO_17.out (by omega)
                                       (first | cases eo75 | (injection eo75 with ea_ en_ ec_; (first | subst ea_ | (injection ea_ with ea_; subst ea_)); subst ec_; clear en_))
                                       have GB75 := Aside0.mk gb75
                                       have GG75 := Aside0.mk HG75
                                       clear gb75 gl75 HG75
                                       obtain ⟨hx75_0, hf75_0⟩ := Kd.R_celln false HO_17.out (x18_4 : Int) p75 q75
                                       replace p75 := eq_true p75
                                       replace q75 := eq_true q75
                                       have HP80 := Kd.R_putg HO_17.out (x18_4 : Int) false
                                       go_wp2_with (first | ((with_reducible refine gate_store (t := 4) (p := 187) rfl ?_); (try (rw [drewN_self wc]; generalize hq_ : World.drewN wc _ = wc; have n0_ := Aside0.mk (Kd.R_at hq_ HO_7.out); have n1_ := Aside0.mk (Kd.R_at hq_ HO_11.out); have n2_ := Aside0.mk (Kd.R_at hq_ HO_17.out); have n3_ := Aside0.mk (blk_at hq_ BK428.out); have n4_ := Aside0.mk (below_at hq_ HB.out); clear hq_ HO_7 HO_11 HO_17 BK428 HB; have HO_7 := n0_; have HO_11 := n1_; have HO_17 := n2_; have BK428 := n3_; have HB := n4_; clear n0_ n1_ n2_ n3_ n4_; (try (have HP80 := Kd.R_putg HO_17.out (x18_4 : Int) false)))); refine store_event (t := 4) (p := 187) (v := ?vo_w81) (w1 := (wc.setCell ⟨go75, (x18_4 : Int).toNat, none⟩ (.bool false))) ?hg ?ho ?hn ?hr ?_; (case ho => rfl); (case hg => rfl); (case hn => rfl); (case hr => first | (go_simp; done) | (go_simp; rfl)); intro w81 hw; have hg : wc.grownBy w81 (some go75) := (by rw [hw]; exact HP80.2); have hp_ : Kd.R Kd.bool 4 w81 w.heap.size (fun k_ => some k_ ≠ (v442 : Value).ownBlock) (.slice (some ⟨go75, 0, none⟩) x17_4.length co75) y460 := (by rw [hw, Ny460.out]; first | exact HP80.1 | (rw [← Nbq76.out]; exact HP80.1)); clear HP80; have n0_ := Aside0.mk (Kd.R_over' (v := (.slice (some ⟨go75, 0, none⟩) x17_4.length co75)) (by (with_reducible repeat (first | apply Kd.R_alloc | apply Kd.R_drewN | apply Kd.R_drew)); exact HO_7.out) (Kd.R_typed HO_17.out) (by decide) hg); have n1_ := Aside0.mk (Kd.R_after (v := (.slice (some ⟨go75, 0, none⟩) x17_4.length co75)) (v1 := (.slice (some ⟨go75, 0, none⟩) x17_4.length co75)) (ok := (fun _ => True)) (by (with_reducible repeat (first | apply Kd.R_alloc | apply Kd.R_drewN | apply Kd.R_drew)); exact Kd.R_mono HO_11.out (fun _ hk => ⟨trivial, hk⟩)) hg (.inl rfl)); have n2_ := Aside0.mk (hp_); have n3_ := Aside0.mk (blk_grown (g := gb428) (o := .cells #[.int .i64 a0_0, .int .i64 a0_1] 32 (0, 0)) (by (with_reducible repeat (first | refine blk_drewN ?_ _ | refine blk_drew ?_ | refine blk_alloc ?_ _)); exact BK428.out) hg (Kd.R_ne HO_17.out BK428.out (by decide))); have n4_ := Aside0.mk ((by rw [hw]; exact below_set (HB.out) GB75.out : Below w.heap.size w w81)); clear HO_7; clear HO_11; clear HO_17; clear BK428; clear HB; have HO_7 := n0_; have HO_11 := n1_; have HO_17 := n2_; have BK428 := n3_; have HB := n4_; clear n0_ n1_ n2_ n3_ n4_; clear hg hw hp_; have p461 : 0 ≤ (x18_4 : Int) := of_decide_eq_true (by first | (with_reducible assumption) | assumption); have q461 : x18_4 < (l2.length : Int) := of_decide_eq_true (by first | (with_reducible assumption) | assumption); obtain ⟨ad461, e461, hx461_0⟩ := Kd.at_bool HR2.out x18_4 p461 q461; (try rw [← Nbq76.out] at hx461_0); obtain rfl : ad459 = ad461 := (by injection e461); replace hx461_0 := (HB.out.cell (World.block_lt_of_cell? w _ hx461_0)).trans hx461_0; replace p461 := eq_true p461; replace q461 := eq_true q461))
                                       go_roundg kj68
                                       case measure => have := HJ10.out; have := HK2.out; have := HK3.out; have := HK4.out; have := HJ68.out; omega
                                       case rel => exact ⟨(x16_4), (y460), (wrap64 (x18_4 + 1)), (by first | rfl | (simp; done) | (simp [*]; done)), (by first | rfl | (simp; done) | (simp [*]; done)), H', ⟨by have := HJ10.out; have := HK2.out; have := HK3.out; have := HK4.out; have := HJ68.out; omega⟩, ⟨by (with_reducible repeat (first | apply Kd.R_alloc | apply Kd.R_drewN | apply Kd.R_drew)); exact HO_7.out⟩, ⟨by (with_reducible repeat (first | apply Kd.R_alloc | apply Kd.R_drewN | apply Kd.R_drew)); exact Kd.R_mono HO_11.out (fun _ hk => hk.2)⟩, ⟨by (with_reducible repeat (first | apply Kd.R_alloc | apply Kd.R_drewN | apply Kd.R_drew)); exact HO_17.out⟩, ⟨by (with_reducible repeat (first | refine blk_drewN ?_ _ | refine blk_drew ?_ | refine blk_alloc ?_ _)); exact BK428.out⟩, ⟨by repeat (first | (with_reducible first | exact HB.out | apply below_alloc | apply pw_below_drewN | apply below_drew1 | refine below_set ?_ GE428.out) | exact HB.out)⟩⟩
                                   · rw [if_neg c74] at H
                                     exact absurd H (by simp)
                                 · rw [if_neg c73] at H
                                   exact absurd H (by simp)
                               · rw [if_neg c72] at H
                                 exact absurd H (by simp)
                             · replace c71 := Bool.eq_false_iff.mpr c71
                               subst c71
                               have H1 : ((kimberlitelaw01_covers.f kj68 a0_0 a0_1 l1 x11_2).bind fun t462 => (if t462 = true then (if x16_4 ≥ (t430.length : Int) then ((kimberlitelaw01_alive.f kj68).bind fun t463 => (some t463)) else ((kimberlitelaw01_covers.f kj68 a0_0 a0_1 l1 x17_4).bind fun t464 => (if t464 = true then (some false) else ((kimberlitelaw01_alive.f kj68).bind fun t465 => (some t465))))) else (some false))) = some r := by rw [if_neg (show ¬ (false = true) by decide)] at H; exact H
                               clear H
                               have H := H1
                               clear H1
                               replace H := Option.bind_eq_some_iff.mp H
                               obtain ⟨t462, A820, H⟩ := H
                               replace H : (if t462 = true then (if x16_4 ≥ (t430.length : Int) then ((kimberlitelaw01_alive.f kj68).bind fun t463 => (some t463)) else ((kimberlitelaw01_covers.f kj68 a0_0 a0_1 l1 x17_4).bind fun t464 => (if t464 = true then (some false) else ((kimberlitelaw01_alive.f kj68).bind fun t465 => (some t465))))) else (some false)) = some r := H
                               have A82 := Aside0.mk A820
                               clear A820
                               by_cases c83 : t462 = true
                               · subst c83
                                 have H1 : (if x16_4 ≥ (t430.length : Int) then ((kimberlitelaw01_alive.f kj68).bind fun t463 => (some t463)) else ((kimberlitelaw01_covers.f kj68 a0_0 a0_1 l1 x17_4).bind fun t464 => (if t464 = true then (some false) else ((kimberlitelaw01_alive.f kj68).bind fun t465 => (some t465))))) = some r := by rw [if_pos rfl] at H; exact H
                                 clear H
                                 have H := H1
                                 clear H1
                                 by_cases c84 : x16_4 ≥ (t430.length : Int)
                                 · rw [if_pos c84] at H
                                   have c84b0 : decide ((t430.length : Int) ≤ x16_4) = true := decide_eq_true c84
                                   clear c84
                                   replace H := Option.bind_eq_some_iff.mp H
                                   obtain ⟨t463, A850, H⟩ := H
                                   replace H : (some t463) = some r := H
                                   have A85 := Aside0.mk A850
                                   clear A850
                                   obtain rfl := Option.some.inj H
                                   have hcz86_0 : wc.cell? ⟨gb428, 0, none⟩ = some (.int .i64 a0_0) := (blk_cell BK428.out 0).trans rfl
                                   have hcz86_1 : wc.cell? ⟨gb428, 1, none⟩ = some (.int .i64 a0_1) := (blk_cell BK428.out 1).trans rfl
                                   have hfz86_0 := blk_frozen BK428.out 0
                                   have hfz86_1 := blk_frozen BK428.out 1
                                   obtain ⟨Ao87, co87, eo87⟩ := Kd.R_slice HO_11.out
                                   subst eo87
                                   go_wp2_with (first | (go_at_call 29; (with_reducible refine (kimberlitelaw01_covers.calls kj68 a0_0 a0_1 _ _ l1 _ _ x11_2 true _ ?side1 ?side2 ?side3 ?side4 A82.out).mono ?_); (case side1 => repeat (first | exact (Kd.C_below HR1.out HB.out) | (with_reducible refine Kd.C_alloc ?_ _) | (with_reducible refine Kd.C_drewN ?_ _) | (with_reducible refine Kd.C_drew ?_))); (case side2 => exact HC1.out); (case side3 => repeat (first | exact (Kd.R_reads' HO_11.out).2.2 | (with_reducible refine Kd.C_alloc ?_ _) | (with_reducible refine Kd.C_drewN ?_ _) | (with_reducible refine Kd.C_drew ?_))); (case side4 => exact (Kd.R_reads' HO_11.out).2.1); rintro e w88 ⟨rfl, hb⟩; have n0_ := Aside0.mk (Kd.R_below (by (with_reducible repeat (first | apply Kd.R_alloc | apply Kd.R_drewN | apply Kd.R_drew)); exact HO_7.out) hb); have n1_ := Aside0.mk (Kd.R_below (by (with_reducible repeat (first | apply Kd.R_alloc | apply Kd.R_drewN | apply Kd.R_drew)); exact HO_11.out) hb); have n2_ := Aside0.mk (Kd.R_below (by (with_reducible repeat (first | apply Kd.R_alloc | apply Kd.R_drewN | apply Kd.R_drew)); exact HO_17.out) hb); have n3_ := Aside0.mk (blk_below (g := gb428) (o := .cells #[.int .i64 a0_0, .int .i64 a0_1] 32 (0, 0)) (by (with_reducible repeat (first | refine blk_drewN ?_ _ | refine blk_drew ?_ | refine blk_alloc ?_ _)); exact BK428.out) hb); have n4_ := Aside0.mk (below_step (by repeat (first | (with_reducible first | exact HB.out | apply below_alloc | apply pw_below_drewN | apply below_drew1 | refine below_set ?_ GE428.out) | exact HB.out)) hb); clear HO_7; clear HO_11; clear HO_17; clear BK428; clear HB; have HO_7 := n0_; have HO_11 := n1_; have HO_17 := n2_; have BK428 := n3_; have HB := n4_; clear n0_ n1_ n2_ n3_ n4_; (try clear hb); (try clear hb2); (try clear hk); (try clear hi)) | (go_at_call 16; (with_reducible refine (kimberlitelaw01_alive.calls kj68  t463 _ A85.out).mono ?_); rintro e w89 ⟨rfl, hb⟩; have n0_ := Aside0.mk (Kd.R_below (by (with_reducible repeat (first | apply Kd.R_alloc | apply Kd.R_drewN | apply Kd.R_drew)); exact HO_7.out) hb); have n1_ := Aside0.mk (Kd.R_below (by (with_reducible repeat (first | apply Kd.R_alloc | apply Kd.R_drewN | apply Kd.R_drew)); exact HO_11.out) hb); have n2_ := Aside0.mk (Kd.R_below (by (with_reducible repeat (first | apply Kd.R_alloc | apply Kd.R_drewN | apply Kd.R_drew)); exact HO_17.out) hb); have n3_ := Aside0.mk (blk_below (g := gb428) (o := .cells #[.int .i64 a0_0, .int .i64 a0_1] 32 (0, 0)) (by (with_reducible repeat (first | refine blk_drewN ?_ _ | refine blk_drew ?_ | refine blk_alloc ?_ _)); exact BK428.out) hb); have n4_ := Aside0.mk (below_step (by repeat (first | (with_reducible first | exact HB.out | apply below_alloc | apply pw_below_drewN | apply below_drew1 | refine below_set ?_ GE428.out) | exact HB.out)) hb); clear HO_7; clear HO_11; clear HO_17; clear BK428; clear HB; have HO_7 := n0_; have HO_11 := n1_; have HO_17 := n2_; have BK428 := n3_; have HB := n4_; clear n0_ n1_ n2_ n3_ n4_; (try clear hb); (try clear hb2); (try clear hk); (try clear hi)))
                                   go_ret
                                   exact ⟨by first | rfl | (simp [errW_none, errW_some] <;> rfl) | (simp [*, errW_none, errW_some] <;> rfl), by repeat (first | (with_reducible first | exact HB.out | apply below_alloc | apply pw_below_drewN | apply below_drew1 | refine below_set ?_ GE428.out) | exact HB.out)⟩
                                 · rw [if_neg c84] at H
                                   have c84b0 : decide ((t430.length : Int) ≤ x16_4) = false := decide_eq_false c84
                                   clear c84
                                   replace H := Option.bind_eq_some_iff.mp H
                                   obtain ⟨t464, A900, H⟩ := H
                                   replace H : (if t464 = true then (some false) else ((kimberlitelaw01_alive.f kj68).bind fun t465 => (some t465))) = some r := H
                                   have A90 := Aside0.mk A900
                                   clear A900
                                   by_cases c91 : t464 = true
                                   · subst c91
                                     have H1 : (some false) = some r := by rw [if_pos rfl] at H; exact H
                                     clear H
                                     have H := H1
                                     clear H1
                                     obtain rfl := Option.some.inj H
                                     have hcz92_0 : wc.cell? ⟨gb428, 0, none⟩ = some (.int .i64 a0_0) := (blk_cell BK428.out 0).trans rfl
                                     have hcz92_1 : wc.cell? ⟨gb428, 1, none⟩ = some (.int .i64 a0_1) := (blk_cell BK428.out 1).trans rfl
                                     have hfz92_0 := blk_frozen BK428.out 0
                                     have hfz92_1 := blk_frozen BK428.out 1
                                     obtain ⟨Ao93, co93, eo93⟩ := Kd.R_slice HO_11.out
                                     subst eo93
                                     go_wp2_with (first | (go_at_call 29; (with_reducible refine (kimberlitelaw01_covers.calls kj68 a0_0 a0_1 _ _ l1 _ _ x11_2 true _ ?side1 ?side2 ?side3 ?side4 A82.out).mono ?_); (case side1 => repeat (first | exact (Kd.C_below HR1.out HB.out) | (with_reducible refine Kd.C_alloc ?_ _) | (with_reducible refine Kd.C_drewN ?_ _) | (with_reducible refine Kd.C_drew ?_))); (case side2 => exact HC1.out); (case side3 => repeat (first | exact (Kd.R_reads' HO_11.out).2.2 | (with_reducible refine Kd.C_alloc ?_ _) | (with_reducible refine Kd.C_drewN ?_ _) | (with_reducible refine Kd.C_drew ?_))); (case side4 => exact (Kd.R_reads' HO_11.out).2.1); rintro e w94 ⟨rfl, hb⟩; have n0_ := Aside0.mk (Kd.R_below (by (with_reducible repeat (first | apply Kd.R_alloc | apply Kd.R_drewN | apply Kd.R_drew)); exact HO_7.out) hb); have n1_ := Aside0.mk (Kd.R_below (by (with_reducible repeat (first | apply Kd.R_alloc | apply Kd.R_drewN | apply Kd.R_drew)); exact HO_11.out) hb); have n2_ := Aside0.mk (Kd.R_below (by (with_reducible repeat (first | apply Kd.R_alloc | apply Kd.R_drewN | apply Kd.R_drew)); exact HO_17.out) hb); have n3_ := Aside0.mk (blk_below (g := gb428) (o := .cells #[.int .i64 a0_0, .int .i64 a0_1] 32 (0, 0)) (by (with_reducible repeat (first | refine blk_drewN ?_ _ | refine blk_drew ?_ | refine blk_alloc ?_ _)); exact BK428.out) hb); have n4_ := Aside0.mk (below_step (by repeat (first | (with_reducible first | exact HB.out | apply below_alloc | apply pw_below_drewN | apply below_drew1 | refine below_set ?_ GE428.out) | exact HB.out)) hb); clear HO_7; clear HO_11; clear HO_17; clear BK428; clear HB; have HO_7 := n0_; have HO_11 := n1_; have HO_17 := n2_; have BK428 := n3_; have HB := n4_; clear n0_ n1_ n2_ n3_ n4_; (try clear hb); (try clear hb2); (try clear hk); (try clear hi); have hcz95_0 : w94.cell? ⟨gb428, 0, none⟩ = some (.int .i64 a0_0) := (blk_cell BK428.out 0).trans rfl; have hcz95_1 : w94.cell? ⟨gb428, 1, none⟩ = some (.int .i64 a0_1) := (blk_cell BK428.out 1).trans rfl; have hfz95_0 := blk_frozen BK428.out 0; have hfz95_1 := blk_frozen BK428.out 1; obtain ⟨Ao96, co96, eo96⟩ := Kd.R_slice HO_17.out; subst eo96) | (go_at_call 29; (with_reducible refine (kimberlitelaw01_covers.calls kj68 a0_0 a0_1 _ _ l1 _ _ x17_4 true _ ?side1 ?side2 ?side3 ?side4 A90.out).mono ?_); (case side1 => repeat (first | exact (Kd.C_below HR1.out HB.out) | (with_reducible refine Kd.C_alloc ?_ _) | (with_reducible refine Kd.C_drewN ?_ _) | (with_reducible refine Kd.C_drew ?_))); (case side2 => exact HC1.out); (case side3 => repeat (first | exact (Kd.R_reads' HO_17.out).2.2 | (with_reducible refine Kd.C_alloc ?_ _) | (with_reducible refine Kd.C_drewN ?_ _) | (with_reducible refine Kd.C_drew ?_))); (case side4 => exact (Kd.R_reads' HO_17.out).2.1); rintro e w97 ⟨rfl, hb⟩; have n0_ := Aside0.mk (Kd.R_below (by (with_reducible repeat (first | apply Kd.R_alloc | apply Kd.R_drewN | apply Kd.R_drew)); exact HO_7.out) hb); have n1_ := Aside0.mk (Kd.R_below (by (with_reducible repeat (first | apply Kd.R_alloc | apply Kd.R_drewN | apply Kd.R_drew)); exact HO_11.out) hb); have n2_ := Aside0.mk (Kd.R_below (by (with_reducible repeat (first | apply Kd.R_alloc | apply Kd.R_drewN | apply Kd.R_drew)); exact HO_17.out) hb); have n3_ := Aside0.mk (blk_below (g := gb428) (o := .cells #[.int .i64 a0_0, .int .i64 a0_1] 32 (0, 0)) (by (with_reducible repeat (first | refine blk_drewN ?_ _ | refine blk_drew ?_ | refine blk_alloc ?_ _)); exact BK428.out) hb); have n4_ := Aside0.mk (below_step (by repeat (first | (with_reducible first | exact HB.out | apply below_alloc | apply pw_below_drewN | apply below_drew1 | refine below_set ?_ GE428.out) | exact HB.out)) hb); clear HO_7; clear HO_11; clear HO_17; clear BK428; clear HB; have HO_7 := n0_; have HO_11 := n1_; have HO_17 := n2_; have BK428 := n3_; have HB := n4_; clear n0_ n1_ n2_ n3_ n4_; (try clear hb); (try clear hb2); (try clear hk); (try clear hi)))
                                     go_ret
                                     exact ⟨by first | rfl | (simp [errW_none, errW_some] <;> rfl) | (simp [*, errW_none, errW_some] <;> rfl), by repeat (first | (with_reducible first | exact HB.out | apply below_alloc | apply pw_below_drewN | apply below_drew1 | refine below_set ?_ GE428.out) | exact HB.out)⟩
                                   · replace c91 := Bool.eq_false_iff.mpr c91
                                     subst c91
                                     have H1 : ((kimberlitelaw01_alive.f kj68).bind fun t465 => (some t465)) = some r := by rw [if_neg (show ¬ (false = true) by decide)] at H; exact H
                                     clear H
                                     have H := H1
                                     clear H1
                                     replace H := Option.bind_eq_some_iff.mp H
                                     obtain ⟨t465, A980, H⟩ := H
                                     replace H : (some t465) = some r := H
                                     have A98 := Aside0.mk A980
                                     clear A980
                                     obtain rfl := Option.some.inj H
                                     have hcz99_0 : wc.cell? ⟨gb428, 0, none⟩ = some (.int .i64 a0_0) := (blk_cell BK428.out 0).trans rfl
                                     have hcz99_1 : wc.cell? ⟨gb428, 1, none⟩ = some (.int .i64 a0_1) := (blk_cell BK428.out 1).trans rfl
                                     have hfz99_0 := blk_frozen BK428.out 0
                                     have hfz99_1 := blk_frozen BK428.out 1
                                     obtain ⟨Ao100, co100, eo100⟩ := Kd.R_slice HO_11.out
                                     subst eo100
                                     go_wp2_with (first | (go_at_call 29; (with_reducible refine (kimberlitelaw01_covers.calls kj68 a0_0 a0_1 _ _ l1 _ _ x11_2 true _ ?side1 ?side2 ?side3 ?side4 A82.out).mono ?_); (case side1 => repeat (first | exact (Kd.C_below HR1.out HB.out) | (with_reducible refine Kd.C_alloc ?_ _) | (with_reducible refine Kd.C_drewN ?_ _) | (with_reducible refine Kd.C_drew ?_))); (case side2 => exact HC1.out); (case side3 => repeat (first | exact (Kd.R_reads' HO_11.out).2.2 | (with_reducible refine Kd.C_alloc ?_ _) | (with_reducible refine Kd.C_drewN ?_ _) | (with_reducible refine Kd.C_drew ?_))); (case side4 => exact (Kd.R_reads' HO_11.out).2.1); rintro e w101 ⟨rfl, hb⟩; have n0_ := Aside0.mk (Kd.R_below (by (with_reducible repeat (first | apply Kd.R_alloc | apply Kd.R_drewN | apply Kd.R_drew)); exact HO_7.out) hb); have n1_ := Aside0.mk (Kd.R_below (by (with_reducible repeat (first | apply Kd.R_alloc | apply Kd.R_drewN | apply Kd.R_drew)); exact HO_11.out) hb); have n2_ := Aside0.mk (Kd.R_below (by (with_reducible repeat (first | apply Kd.R_alloc | apply Kd.R_drewN | apply Kd.R_drew)); exact HO_17.out) hb); have n3_ := Aside0.mk (blk_below (g := gb428) (o := .cells #[.int .i64 a0_0, .int .i64 a0_1] 32 (0, 0)) (by (with_reducible repeat (first | refine blk_drewN ?_ _ | refine blk_drew ?_ | refine blk_alloc ?_ _)); exact BK428.out) hb); have n4_ := Aside0.mk (below_step (by repeat (first | (with_reducible first | exact HB.out | apply below_alloc | apply pw_below_drewN | apply below_drew1 | refine below_set ?_ GE428.out) | exact HB.out)) hb); clear HO_7; clear HO_11; clear HO_17; clear BK428; clear HB; have HO_7 := n0_; have HO_11 := n1_; have HO_17 := n2_; have BK428 := n3_; have HB := n4_; clear n0_ n1_ n2_ n3_ n4_; (try clear hb); (try clear hb2); (try clear hk); (try clear hi); have hcz102_0 : w101.cell? ⟨gb428, 0, none⟩ = some (.int .i64 a0_0) := (blk_cell BK428.out 0).trans rfl; have hcz102_1 : w101.cell? ⟨gb428, 1, none⟩ = some (.int .i64 a0_1) := (blk_cell BK428.out 1).trans rfl; have hfz102_0 := blk_frozen BK428.out 0; have hfz102_1 := blk_frozen BK428.out 1; obtain ⟨Ao103, co103, eo103⟩ := Kd.R_slice HO_17.out; subst eo103) | (go_at_call 29; (with_reducible refine (kimberlitelaw01_covers.calls kj68 a0_0 a0_1 _ _ l1 _ _ x17_4 false _ ?side1 ?side2 ?side3 ?side4 A90.out).mono ?_); (case side1 => repeat (first | exact (Kd.C_below HR1.out HB.out) | (with_reducible refine Kd.C_alloc ?_ _) | (with_reducible refine Kd.C_drewN ?_ _) | (with_reducible refine Kd.C_drew ?_))); (case side2 => exact HC1.out); (case side3 => repeat (first | exact (Kd.R_reads' HO_17.out).2.2 | (with_reducible refine Kd.C_alloc ?_ _) | (with_reducible refine Kd.C_drewN ?_ _) | (with_reducible refine Kd.C_drew ?_))); (case side4 => exact (Kd.R_reads' HO_17.out).2.1); rintro e w104 ⟨rfl, hb⟩; have n0_ := Aside0.mk (Kd.R_below (by (with_reducible repeat (first | apply Kd.R_alloc | apply Kd.R_drewN | apply Kd.R_drew)); exact HO_7.out) hb); have n1_ := Aside0.mk (Kd.R_below (by (with_reducible repeat (first | apply Kd.R_alloc | apply Kd.R_drewN | apply Kd.R_drew)); exact HO_11.out) hb); have n2_ := Aside0.mk (Kd.R_below (by (with_reducible repeat (first | apply Kd.R_alloc | apply Kd.R_drewN | apply Kd.R_drew)); exact HO_17.out) hb); have n3_ := Aside0.mk (blk_below (g := gb428) (o := .cells #[.int .i64 a0_0, .int .i64 a0_1] 32 (0, 0)) (by (with_reducible repeat (first | refine blk_drewN ?_ _ | refine blk_drew ?_ | refine blk_alloc ?_ _)); exact BK428.out) hb); have n4_ := Aside0.mk (below_step (by repeat (first | (with_reducible first | exact HB.out | apply below_alloc | apply pw_below_drewN | apply below_drew1 | refine below_set ?_ GE428.out) | exact HB.out)) hb); clear HO_7; clear HO_11; clear HO_17; clear BK428; clear HB; have HO_7 := n0_; have HO_11 := n1_; have HO_17 := n2_; have BK428 := n3_; have HB := n4_; clear n0_ n1_ n2_ n3_ n4_; (try clear hb); (try clear hb2); (try clear hk); (try clear hi)) | (go_at_call 16; (with_reducible refine (kimberlitelaw01_alive.calls kj68  t465 _ A98.out).mono ?_); rintro e w105 ⟨rfl, hb⟩; have n0_ := Aside0.mk (Kd.R_below (by (with_reducible repeat (first | apply Kd.R_alloc | apply Kd.R_drewN | apply Kd.R_drew)); exact HO_7.out) hb); have n1_ := Aside0.mk (Kd.R_below (by (with_reducible repeat (first | apply Kd.R_alloc | apply Kd.R_drewN | apply Kd.R_drew)); exact HO_11.out) hb); have n2_ := Aside0.mk (Kd.R_below (by (with_reducible repeat (first | apply Kd.R_alloc | apply Kd.R_drewN | apply Kd.R_drew)); exact HO_17.out) hb); have n3_ := Aside0.mk (blk_below (g := gb428) (o := .cells #[.int .i64 a0_0, .int .i64 a0_1] 32 (0, 0)) (by (with_reducible repeat (first | refine blk_drewN ?_ _ | refine blk_drew ?_ | refine blk_alloc ?_ _)); exact BK428.out) hb); have n4_ := Aside0.mk (below_step (by repeat (first | (with_reducible first | exact HB.out | apply below_alloc | apply pw_below_drewN | apply below_drew1 | refine below_set ?_ GE428.out) | exact HB.out)) hb); clear HO_7; clear HO_11; clear HO_17; clear BK428; clear HB; have HO_7 := n0_; have HO_11 := n1_; have HO_17 := n2_; have BK428 := n3_; have HB := n4_; clear n0_ n1_ n2_ n3_ n4_; (try clear hb); (try clear hb2); (try clear hk); (try clear hi)))
                                     go_ret
                                     exact ⟨by first | rfl | (simp [errW_none, errW_some] <;> rfl) | (simp [*, errW_none, errW_some] <;> rfl), by repeat (first | (with_reducible first | exact HB.out | apply below_alloc | apply pw_below_drewN | apply below_drew1 | refine below_set ?_ GE428.out) | exact HB.out)⟩
                               · replace c83 := Bool.eq_false_iff.mpr c83
                                 subst c83
                                 have H1 : (some false) = some r := by rw [if_neg (show ¬ (false = true) by decide)] at H; exact H
                                 clear H
                                 have H := H1
                                 clear H1
                                 obtain rfl := Option.some.inj H
                                 have hcz106_0 : wc.cell? ⟨gb428, 0, none⟩ = some (.int .i64 a0_0) := (blk_cell BK428.out 0).trans rfl
                                 have hcz106_1 : wc.cell? ⟨gb428, 1, none⟩ = some (.int .i64 a0_1) := (blk_cell BK428.out 1).trans rfl
                                 have hfz106_0 := blk_frozen BK428.out 0
                                 have hfz106_1 := blk_frozen BK428.out 1
                                 obtain ⟨Ao107, co107, eo107⟩ := Kd.R_slice HO_11.out
                                 subst eo107
                                 go_wp2_with (first | (go_at_call 29; (with_reducible refine (kimberlitelaw01_covers.calls kj68 a0_0 a0_1 _ _ l1 _ _ x11_2 false _ ?side1 ?side2 ?side3 ?side4 A82.out).mono ?_); (case side1 => repeat (first | exact (Kd.C_below HR1.out HB.out) | (with_reducible refine Kd.C_alloc ?_ _) | (with_reducible refine Kd.C_drewN ?_ _) | (with_reducible refine Kd.C_drew ?_))); (case side2 => exact HC1.out); (case side3 => repeat (first | exact (Kd.R_reads' HO_11.out).2.2 | (with_reducible refine Kd.C_alloc ?_ _) | (with_reducible refine Kd.C_drewN ?_ _) | (with_reducible refine Kd.C_drew ?_))); (case side4 => exact (Kd.R_reads' HO_11.out).2.1); rintro e w108 ⟨rfl, hb⟩; have n0_ := Aside0.mk (Kd.R_below (by (with_reducible repeat (first | apply Kd.R_alloc | apply Kd.R_drewN | apply Kd.R_drew)); exact HO_7.out) hb); have n1_ := Aside0.mk (Kd.R_below (by (with_reducible repeat (first | apply Kd.R_alloc | apply Kd.R_drewN | apply Kd.R_drew)); exact HO_11.out) hb); have n2_ := Aside0.mk (Kd.R_below (by (with_reducible repeat (first | apply Kd.R_alloc | apply Kd.R_drewN | apply Kd.R_drew)); exact HO_17.out) hb); have n3_ := Aside0.mk (blk_below (g := gb428) (o := .cells #[.int .i64 a0_0, .int .i64 a0_1] 32 (0, 0)) (by (with_reducible repeat (first | refine blk_drewN ?_ _ | refine blk_drew ?_ | refine blk_alloc ?_ _)); exact BK428.out) hb); have n4_ := Aside0.mk (below_step (by repeat (first | (with_reducible first | exact HB.out | apply below_alloc | apply pw_below_drewN | apply below_drew1 | refine below_set ?_ GE428.out) | exact HB.out)) hb); clear HO_7; clear HO_11; clear HO_17; clear BK428; clear HB; have HO_7 := n0_; have HO_11 := n1_; have HO_17 := n2_; have BK428 := n3_; have HB := n4_; clear n0_ n1_ n2_ n3_ n4_; (try clear hb); (try clear hb2); (try clear hk); (try clear hi)))
                                 go_ret
                                 exact ⟨by first | rfl | (simp [errW_none, errW_some] <;> rfl) | (simp [*, errW_none, errW_some] <;> rfl), by repeat (first | (with_reducible first | exact HB.out | apply below_alloc | apply pw_below_drewN | apply below_drew1 | refine below_set ?_ GE428.out) | exact HB.out)⟩
                       · rw [if_neg c66] at H
                         exact absurd H (by simp)
                     · rw [if_neg c65] at H
                       exact absurd H (by simp)
           · rw [if_neg c22] at H
             exact absurd H (by simp)
         · rw [if_neg c21] at H
           exact absurd H (by simp)
   · rw [if_neg c10] at H
     have c10b0 : (t433 == 0) = false := beq_eq_false_iff_ne.mpr c10
     have c10b1 : (t433 != 0) = true := bne_iff_ne.mpr c10
     by_cases c109 : t433 = t437
     · rw [if_pos c109] at H
       have c109b0 : (t433 == t437) = true := beq_iff_eq.mpr c109
       have c109b1 : (t433 != t437) = false := bne_eq_false_iff_eq.mpr c109
       clear c109
       by_cases c110 : (t430.length : Int) = 0
       · rw [if_pos c110] at H
         have c110b0 : ((t430.length : Int) == 0) = true := beq_iff_eq.mpr c110
         have c110b1 : ((t430.length : Int) != 0) = false := bne_eq_false_iff_eq.mpr c110
         clear c110
         by_cases c111 : (t434.length : Int) = 0
         · rw [if_pos c111] at H
           have c111b0 : ((t434.length : Int) == 0) = true := beq_iff_eq.mpr c111
           have c111b1 : ((t434.length : Int) != 0) = false := bne_eq_false_iff_eq.mpr c111
           clear c111
           by_cases c112 : t433 = 10
           · rw [if_pos c112] at H
             have c112b0 : (t433 == 10) = true := beq_iff_eq.mpr c112
             have c112b1 : (t433 != 10) = false := bne_eq_false_iff_eq.mpr c112
             clear c112
             replace H := Option.bind_eq_some_iff.mp H
             obtain ⟨t438, A1130, H⟩ := H
             replace H : (if t438 = true then (some false) else ((kimberlitelaw01_alive.f k).bind fun t439 => (some t439))) = some r := H
             have A113 := Aside0.mk A1130
             clear A1130
             by_cases c114 : t438 = true
             · subst c114
               have H1 : (some false) = some r := by rw [if_pos rfl] at H; exact H
               clear H
               have H := H1
               clear H1
               obtain rfl := Option.some.inj H
               go_enter Try.func5, Try.ntmps5
               go_wp2_with (first | ((with_reducible refine gate_dst (N := 3) rfl ?_); (try (refine gate_guard (by rfl) ?_; dsimp only)); refine box_event ?hg (N := 3) ?hd (cs := #[.int .i64 a0_0, .int .i64 a0_1]) (t := 32) ?hr ?_; (case hd => rfl); (case hg => rfl); (case hr => first | (go_simp; done) | (go_simp; rfl)); intro gb428 hg w115 hbox hb; have n0_ := Aside0.mk (below_step (by repeat (first | (with_reducible first | exact HB.out | apply below_alloc | apply pw_below_drewN | apply below_drew1) | exact HB.out)) hb); have n1_ := Aside0.mk (hbox); have n2_ := Aside0.mk ((by rw [hg]; exact (below_size (by repeat (first | (with_reducible first | exact HB.out | apply below_alloc | apply pw_below_drewN | apply below_drew1) | exact HB.out))) : w.heap.size ≤ gb428)); have n3_ := Aside0.mk ((by rw [hg]; exact (below_size (by repeat (first | (with_reducible first | exact HB.out | apply below_alloc | apply pw_below_drewN | apply below_drew1) | exact HB.out))) : w.heap.size ≤ gb428)); clear HB; have HB := n0_; have BK428 := n1_; have GW428 := n2_; have GE428 := n3_; clear n0_ n1_ n2_ n3_; clear hb hbox hg; have hcz116_0 : w115.cell? ⟨gb428, 0, none⟩ = some (.int .i64 a0_0) := (blk_cell BK428.out 0).trans rfl; have hcz116_1 : w115.cell? ⟨gb428, 1, none⟩ = some (.int .i64 a0_1) := (blk_cell BK428.out 1).trans rfl; have hfz116_0 := blk_frozen BK428.out 0; have hfz116_1 := blk_frozen BK428.out 1) | (go_at_call 25; (with_reducible refine (span_Cover.calls k a0_0 a0_1 _ _ l1 t430 t433 _ ?side1 ?side2 A8.out).mono ?_); (case side1 => repeat (first | exact (Kd.C_below HR1.out HB.out) | (with_reducible refine Kd.C_alloc ?_ _) | (with_reducible refine Kd.C_drewN ?_ _) | (with_reducible refine Kd.C_drew ?_))); (case side2 => exact HC1.out); rintro e w117 ⟨v431, rfl, ho0, hb⟩; have n0_ := Aside0.mk (Kd.R_lower ho0 (below_size (by repeat (first | (with_reducible first | exact HB.out | apply below_alloc | apply pw_below_drewN | apply below_drew1 | refine below_set ?_ GE428.out) | exact HB.out)))); have n1_ := Aside0.mk (blk_below (g := gb428) (o := .cells #[.int .i64 a0_0, .int .i64 a0_1] 32 (0, 0)) (by (with_reducible repeat (first | refine blk_drewN ?_ _ | refine blk_drew ?_ | refine blk_alloc ?_ _)); exact BK428.out) hb); have n2_ := Aside0.mk (below_step (by repeat (first | (with_reducible first | exact HB.out | apply below_alloc | apply pw_below_drewN | apply below_drew1 | refine below_set ?_ GE428.out) | exact HB.out)) hb); clear BK428; clear HB; have HO432 := n0_; have BK428 := n1_; have HB := n2_; clear n0_ n1_ n2_; (try clear hb); (try clear hb2); (try clear hk); (try clear hi); (try clear ho0); have hcz118_0 : w117.cell? ⟨gb428, 0, none⟩ = some (.int .i64 a0_0) := (blk_cell BK428.out 0).trans rfl; have hcz118_1 : w117.cell? ⟨gb428, 1, none⟩ = some (.int .i64 a0_1) := (blk_cell BK428.out 1).trans rfl; have hfz118_0 := blk_frozen BK428.out 0; have hfz118_1 := blk_frozen BK428.out 1) | (go_at_call 26; (with_reducible refine (span_Apart.calls k a0_0 a0_1 _ _ l1 t434 t437 _ ?side1 ?side2 A9.out).mono ?_); (case side1 => repeat (first | exact (Kd.C_below HR1.out HB.out) | (with_reducible refine Kd.C_alloc ?_ _) | (with_reducible refine Kd.C_drewN ?_ _) | (with_reducible refine Kd.C_drew ?_))); (case side2 => exact HC1.out); rintro e w119 ⟨v435, rfl, ho0, hb⟩; have n0_ := Aside0.mk (Kd.R_elder' (by (with_reducible repeat (first | apply Kd.R_alloc | apply Kd.R_drewN | apply Kd.R_drew)); exact HO432.out) (Kd.R_base ho0) hb); have n1_ := Aside0.mk (Kd.R_lower (Kd.R_new' ho0 (Kd.R_lt (by (with_reducible repeat (first | apply Kd.R_alloc | apply Kd.R_drewN | apply Kd.R_drew)); exact HO432.out))) (below_size (by repeat (first | (with_reducible first | exact HB.out | apply below_alloc | apply pw_below_drewN | apply below_drew1 | refine below_set ?_ GE428.out) | exact HB.out)))); have n2_ := Aside0.mk (blk_below (g := gb428) (o := .cells #[.int .i64 a0_0, .int .i64 a0_1] 32 (0, 0)) (by (with_reducible repeat (first | refine blk_drewN ?_ _ | refine blk_drew ?_ | refine blk_alloc ?_ _)); exact BK428.out) hb); have n3_ := Aside0.mk (below_step (by repeat (first | (with_reducible first | exact HB.out | apply below_alloc | apply pw_below_drewN | apply below_drew1 | refine below_set ?_ GE428.out) | exact HB.out)) hb); clear HO432; clear BK428; clear HB; have HO432 := n0_; have HO436 := n1_; have BK428 := n2_; have HB := n3_; clear n0_ n1_ n2_ n3_; (try clear hb); (try clear hb2); (try clear hk); (try clear hi); (try clear ho0); obtain ⟨Ao120, co120, eo120⟩ := Kd.R_slice HO432.out; subst eo120; obtain ⟨Ao121, co121, eo121⟩ := Kd.R_slice HO436.out; subst eo121; have hcz122_0 : w119.cell? ⟨gb428, 0, none⟩ = some (.int .i64 a0_0) := (blk_cell BK428.out 0).trans rfl; have hcz122_1 : w119.cell? ⟨gb428, 1, none⟩ = some (.int .i64 a0_1) := (blk_cell BK428.out 1).trans rfl; have hfz122_0 := blk_frozen BK428.out 0; have hfz122_1 := blk_frozen BK428.out 1) | (go_at_call 29; (refine (kimberlitelaw01_covers.calls k a0_0 a0_1 _ _ l1 _ _ ([] : List Bool) true _ ?side1 ?side2 ?side3 ?side4 A113.out).mono ?_); (case side1 => repeat (first | exact (Kd.C_below HR1.out HB.out) | (with_reducible refine Kd.C_alloc ?_ _) | (with_reducible refine Kd.C_drewN ?_ _) | (with_reducible refine Kd.C_drew ?_))); (case side2 => exact HC1.out); (case side3 => exact Kd.C_nil _ _); (case side4 => exact Nat.le_refl _); rintro e w123 ⟨rfl, hb⟩; have n0_ := Aside0.mk (Kd.R_below (by (with_reducible repeat (first | apply Kd.R_alloc | apply Kd.R_drewN | apply Kd.R_drew)); exact HO432.out) hb); have n1_ := Aside0.mk (Kd.R_below (by (with_reducible repeat (first | apply Kd.R_alloc | apply Kd.R_drewN | apply Kd.R_drew)); exact HO436.out) hb); have n2_ := Aside0.mk (blk_below (g := gb428) (o := .cells #[.int .i64 a0_0, .int .i64 a0_1] 32 (0, 0)) (by (with_reducible repeat (first | refine blk_drewN ?_ _ | refine blk_drew ?_ | refine blk_alloc ?_ _)); exact BK428.out) hb); have n3_ := Aside0.mk (below_step (by repeat (first | (with_reducible first | exact HB.out | apply below_alloc | apply pw_below_drewN | apply below_drew1 | refine below_set ?_ GE428.out) | exact HB.out)) hb); clear HO432; clear HO436; clear BK428; clear HB; have HO432 := n0_; have HO436 := n1_; have BK428 := n2_; have HB := n3_; clear n0_ n1_ n2_ n3_; (try clear hb); (try clear hb2); (try clear hk); (try clear hi)))
               go_ret
               exact ⟨by first | rfl | (simp [errW_none, errW_some] <;> rfl) | (simp [*, errW_none, errW_some] <;> rfl), by repeat (first | (with_reducible first | exact HB.out | apply below_alloc | apply pw_below_drewN | apply below_drew1 | refine below_set ?_ GE428.out) | exact HB.out)⟩
             · replace c114 := Bool.eq_false_iff.mpr c114
               subst c114
               have H1 : ((kimberlitelaw01_alive.f k).bind fun t439 => (some t439)) = some r := by rw [if_neg (show ¬ (false = true) by decide)] at H; exact H
               clear H
               have H := H1
               clear H1
               replace H := Option.bind_eq_some_iff.mp H
               obtain ⟨t439, A1240, H⟩ := H
               replace H : (some t439) = some r := H
               have A124 := Aside0.mk A1240
               clear A1240
               obtain rfl := Option.some.inj H
               go_enter Try.func5, Try.ntmps5
               go_wp2_with (first | ((with_reducible refine gate_dst (N := 3) rfl ?_); (try (refine gate_guard (by rfl) ?_; dsimp only)); refine box_event ?hg (N := 3) ?hd (cs := #[.int .i64 a0_0, .int .i64 a0_1]) (t := 32) ?hr ?_; (case hd => rfl); (case hg => rfl); (case hr => first | (go_simp; done) | (go_simp; rfl)); intro gb428 hg w125 hbox hb; have n0_ := Aside0.mk (below_step (by repeat (first | (with_reducible first | exact HB.out | apply below_alloc | apply pw_below_drewN | apply below_drew1) | exact HB.out)) hb); have n1_ := Aside0.mk (hbox); have n2_ := Aside0.mk ((by rw [hg]; exact (below_size (by repeat (first | (with_reducible first | exact HB.out | apply below_alloc | apply pw_below_drewN | apply below_drew1) | exact HB.out))) : w.heap.size ≤ gb428)); have n3_ := Aside0.mk ((by rw [hg]; exact (below_size (by repeat (first | (with_reducible first | exact HB.out | apply below_alloc | apply pw_below_drewN | apply below_drew1) | exact HB.out))) : w.heap.size ≤ gb428)); clear HB; have HB := n0_; have BK428 := n1_; have GW428 := n2_; have GE428 := n3_; clear n0_ n1_ n2_ n3_; clear hb hbox hg; have hcz126_0 : w125.cell? ⟨gb428, 0, none⟩ = some (.int .i64 a0_0) := (blk_cell BK428.out 0).trans rfl; have hcz126_1 : w125.cell? ⟨gb428, 1, none⟩ = some (.int .i64 a0_1) := (blk_cell BK428.out 1).trans rfl; have hfz126_0 := blk_frozen BK428.out 0; have hfz126_1 := blk_frozen BK428.out 1) | (go_at_call 25; (with_reducible refine (span_Cover.calls k a0_0 a0_1 _ _ l1 t430 t433 _ ?side1 ?side2 A8.out).mono ?_); (case side1 => repeat (first | exact (Kd.C_below HR1.out HB.out) | (with_reducible refine Kd.C_alloc ?_ _) | (with_reducible refine Kd.C_drewN ?_ _) | (with_reducible refine Kd.C_drew ?_))); (case side2 => exact HC1.out); rintro e w127 ⟨v431, rfl, ho0, hb⟩; have n0_ := Aside0.mk (Kd.R_lower ho0 (below_size (by repeat (first | (with_reducible first | exact HB.out | apply below_alloc | apply pw_below_drewN | apply below_drew1 | refine below_set ?_ GE428.out) | exact HB.out)))); have n1_ := Aside0.mk (blk_below (g := gb428) (o := .cells #[.int .i64 a0_0, .int .i64 a0_1] 32 (0, 0)) (by (with_reducible repeat (first | refine blk_drewN ?_ _ | refine blk_drew ?_ | refine blk_alloc ?_ _)); exact BK428.out) hb); have n2_ := Aside0.mk (below_step (by repeat (first | (with_reducible first | exact HB.out | apply below_alloc | apply pw_below_drewN | apply below_drew1 | refine below_set ?_ GE428.out) | exact HB.out)) hb); clear BK428; clear HB; have HO432 := n0_; have BK428 := n1_; have HB := n2_; clear n0_ n1_ n2_; (try clear hb); (try clear hb2); (try clear hk); (try clear hi); (try clear ho0); have hcz128_0 : w127.cell? ⟨gb428, 0, none⟩ = some (.int .i64 a0_0) := (blk_cell BK428.out 0).trans rfl; have hcz128_1 : w127.cell? ⟨gb428, 1, none⟩ = some (.int .i64 a0_1) := (blk_cell BK428.out 1).trans rfl; have hfz128_0 := blk_frozen BK428.out 0; have hfz128_1 := blk_frozen BK428.out 1) | (go_at_call 26; (with_reducible refine (span_Apart.calls k a0_0 a0_1 _ _ l1 t434 t437 _ ?side1 ?side2 A9.out).mono ?_); (case side1 => repeat (first | exact (Kd.C_below HR1.out HB.out) | (with_reducible refine Kd.C_alloc ?_ _) | (with_reducible refine Kd.C_drewN ?_ _) | (with_reducible refine Kd.C_drew ?_))); (case side2 => exact HC1.out); rintro e w129 ⟨v435, rfl, ho0, hb⟩; have n0_ := Aside0.mk (Kd.R_elder' (by (with_reducible repeat (first | apply Kd.R_alloc | apply Kd.R_drewN | apply Kd.R_drew)); exact HO432.out) (Kd.R_base ho0) hb); have n1_ := Aside0.mk (Kd.R_lower (Kd.R_new' ho0 (Kd.R_lt (by (with_reducible repeat (first | apply Kd.R_alloc | apply Kd.R_drewN | apply Kd.R_drew)); exact HO432.out))) (below_size (by repeat (first | (with_reducible first | exact HB.out | apply below_alloc | apply pw_below_drewN | apply below_drew1 | refine below_set ?_ GE428.out) | exact HB.out)))); have n2_ := Aside0.mk (blk_below (g := gb428) (o := .cells #[.int .i64 a0_0, .int .i64 a0_1] 32 (0, 0)) (by (with_reducible repeat (first | refine blk_drewN ?_ _ | refine blk_drew ?_ | refine blk_alloc ?_ _)); exact BK428.out) hb); have n3_ := Aside0.mk (below_step (by repeat (first | (with_reducible first | exact HB.out | apply below_alloc | apply pw_below_drewN | apply below_drew1 | refine below_set ?_ GE428.out) | exact HB.out)) hb); clear HO432; clear BK428; clear HB; have HO432 := n0_; have HO436 := n1_; have BK428 := n2_; have HB := n3_; clear n0_ n1_ n2_ n3_; (try clear hb); (try clear hb2); (try clear hk); (try clear hi); (try clear ho0); obtain ⟨Ao130, co130, eo130⟩ := Kd.R_slice HO432.out; subst eo130; obtain ⟨Ao131, co131, eo131⟩ := Kd.R_slice HO436.out; subst eo131; have hcz132_0 : w129.cell? ⟨gb428, 0, none⟩ = some (.int .i64 a0_0) := (blk_cell BK428.out 0).trans rfl; have hcz132_1 : w129.cell? ⟨gb428, 1, none⟩ = some (.int .i64 a0_1) := (blk_cell BK428.out 1).trans rfl; have hfz132_0 := blk_frozen BK428.out 0; have hfz132_1 := blk_frozen BK428.out 1) | (go_at_call 29; (refine (kimberlitelaw01_covers.calls k a0_0 a0_1 _ _ l1 _ _ ([] : List Bool) false _ ?side1 ?side2 ?side3 ?side4 A113.out).mono ?_); (case side1 => repeat (first | exact (Kd.C_below HR1.out HB.out) | (with_reducible refine Kd.C_alloc ?_ _) | (with_reducible refine Kd.C_drewN ?_ _) | (with_reducible refine Kd.C_drew ?_))); (case side2 => exact HC1.out); (case side3 => exact Kd.C_nil _ _); (case side4 => exact Nat.le_refl _); rintro e w133 ⟨rfl, hb⟩; have n0_ := Aside0.mk (Kd.R_below (by (with_reducible repeat (first | apply Kd.R_alloc | apply Kd.R_drewN | apply Kd.R_drew)); exact HO432.out) hb); have n1_ := Aside0.mk (Kd.R_below (by (with_reducible repeat (first | apply Kd.R_alloc | apply Kd.R_drewN | apply Kd.R_drew)); exact HO436.out) hb); have n2_ := Aside0.mk (blk_below (g := gb428) (o := .cells #[.int .i64 a0_0, .int .i64 a0_1] 32 (0, 0)) (by (with_reducible repeat (first | refine blk_drewN ?_ _ | refine blk_drew ?_ | refine blk_alloc ?_ _)); exact BK428.out) hb); have n3_ := Aside0.mk (below_step (by repeat (first | (with_reducible first | exact HB.out | apply below_alloc | apply pw_below_drewN | apply below_drew1 | refine below_set ?_ GE428.out) | exact HB.out)) hb); clear HO432; clear HO436; clear BK428; clear HB; have HO432 := n0_; have HO436 := n1_; have BK428 := n2_; have HB := n3_; clear n0_ n1_ n2_ n3_; (try clear hb); (try clear hb2); (try clear hk); (try clear hi)) | (go_at_call 16; (with_reducible refine (kimberlitelaw01_alive.calls k  t439 _ A124.out).mono ?_); rintro e w134 ⟨rfl, hb⟩; have n0_ := Aside0.mk (Kd.R_below (by (with_reducible repeat (first | apply Kd.R_alloc | apply Kd.R_drewN | apply Kd.R_drew)); exact HO432.out) hb); have n1_ := Aside0.mk (Kd.R_below (by (with_reducible repeat (first | apply Kd.R_alloc | apply Kd.R_drewN | apply Kd.R_drew)); exact HO436.out) hb); have n2_ := Aside0.mk (blk_below (g := gb428) (o := .cells #[.int .i64 a0_0, .int .i64 a0_1] 32 (0, 0)) (by (with_reducible repeat (first | refine blk_drewN ?_ _ | refine blk_drew ?_ | refine blk_alloc ?_ _)); exact BK428.out) hb); have n3_ := Aside0.mk (below_step (by repeat (first | (with_reducible first | exact HB.out | apply below_alloc | apply pw_below_drewN | apply below_drew1 | refine below_set ?_ GE428.out) | exact HB.out)) hb); clear HO432; clear HO436; clear BK428; clear HB; have HO432 := n0_; have HO436 := n1_; have BK428 := n2_; have HB := n3_; clear n0_ n1_ n2_ n3_; (try clear hb); (try clear hb2); (try clear hk); (try clear hi)))
               go_ret
               exact ⟨by first | rfl | (simp [errW_none, errW_some] <;> rfl) | (simp [*, errW_none, errW_some] <;> rfl), by repeat (first | (with_reducible first | exact HB.out | apply below_alloc | apply pw_below_drewN | apply below_drew1 | refine below_set ?_ GE428.out) | exact HB.out)⟩
           · rw [if_neg c112] at H
             have c112b0 : (t433 == 10) = false := beq_eq_false_iff_ne.mpr c112
             have c112b1 : (t433 != 10) = true := bne_iff_ne.mpr c112
             replace H := Option.bind_eq_some_iff.mp H
             obtain ⟨t440, A1350, H⟩ := H
             replace H : (some t440) = some r := H
             have A135 := Aside0.mk A1350
             clear A1350
             obtain rfl := Option.some.inj H
             go_enter Try.func5, Try.ntmps5
             go_wp2_with (first | ((with_reducible refine gate_dst (N := 3) rfl ?_); (try (refine gate_guard (by rfl) ?_; dsimp only)); refine box_event ?hg (N := 3) ?hd (cs := #[.int .i64 a0_0, .int .i64 a0_1]) (t := 32) ?hr ?_; (case hd => rfl); (case hg => rfl); (case hr => first | (go_simp; done) | (go_simp; rfl)); intro gb428 hg w136 hbox hb; have n0_ := Aside0.mk (below_step (by repeat (first | (with_reducible first | exact HB.out | apply below_alloc | apply pw_below_drewN | apply below_drew1) | exact HB.out)) hb); have n1_ := Aside0.mk (hbox); have n2_ := Aside0.mk ((by rw [hg]; exact (below_size (by repeat (first | (with_reducible first | exact HB.out | apply below_alloc | apply pw_below_drewN | apply below_drew1) | exact HB.out))) : w.heap.size ≤ gb428)); have n3_ := Aside0.mk ((by rw [hg]; exact (below_size (by repeat (first | (with_reducible first | exact HB.out | apply below_alloc | apply pw_below_drewN | apply below_drew1) | exact HB.out))) : w.heap.size ≤ gb428)); clear HB; have HB := n0_; have BK428 := n1_; have GW428 := n2_; have GE428 := n3_; clear n0_ n1_ n2_ n3_; clear hb hbox hg; have hcz137_0 : w136.cell? ⟨gb428, 0, none⟩ = some (.int .i64 a0_0) := (blk_cell BK428.out 0).trans rfl; have hcz137_1 : w136.cell? ⟨gb428, 1, none⟩ = some (.int .i64 a0_1) := (blk_cell BK428.out 1).trans rfl; have hfz137_0 := blk_frozen BK428.out 0; have hfz137_1 := blk_frozen BK428.out 1) | (go_at_call 25; (with_reducible refine (span_Cover.calls k a0_0 a0_1 _ _ l1 t430 t433 _ ?side1 ?side2 A8.out).mono ?_); (case side1 => repeat (first | exact (Kd.C_below HR1.out HB.out) | (with_reducible refine Kd.C_alloc ?_ _) | (with_reducible refine Kd.C_drewN ?_ _) | (with_reducible refine Kd.C_drew ?_))); (case side2 => exact HC1.out); rintro e w138 ⟨v431, rfl, ho0, hb⟩; have n0_ := Aside0.mk (Kd.R_lower ho0 (below_size (by repeat (first | (with_reducible first | exact HB.out | apply below_alloc | apply pw_below_drewN | apply below_drew1 | refine below_set ?_ GE428.out) | exact HB.out)))); have n1_ := Aside0.mk (blk_below (g := gb428) (o := .cells #[.int .i64 a0_0, .int .i64 a0_1] 32 (0, 0)) (by (with_reducible repeat (first | refine blk_drewN ?_ _ | refine blk_drew ?_ | refine blk_alloc ?_ _)); exact BK428.out) hb); have n2_ := Aside0.mk (below_step (by repeat (first | (with_reducible first | exact HB.out | apply below_alloc | apply pw_below_drewN | apply below_drew1 | refine below_set ?_ GE428.out) | exact HB.out)) hb); clear BK428; clear HB; have HO432 := n0_; have BK428 := n1_; have HB := n2_; clear n0_ n1_ n2_; (try clear hb); (try clear hb2); (try clear hk); (try clear hi); (try clear ho0); have hcz139_0 : w138.cell? ⟨gb428, 0, none⟩ = some (.int .i64 a0_0) := (blk_cell BK428.out 0).trans rfl; have hcz139_1 : w138.cell? ⟨gb428, 1, none⟩ = some (.int .i64 a0_1) := (blk_cell BK428.out 1).trans rfl; have hfz139_0 := blk_frozen BK428.out 0; have hfz139_1 := blk_frozen BK428.out 1) | (go_at_call 26; (with_reducible refine (span_Apart.calls k a0_0 a0_1 _ _ l1 t434 t437 _ ?side1 ?side2 A9.out).mono ?_); (case side1 => repeat (first | exact (Kd.C_below HR1.out HB.out) | (with_reducible refine Kd.C_alloc ?_ _) | (with_reducible refine Kd.C_drewN ?_ _) | (with_reducible refine Kd.C_drew ?_))); (case side2 => exact HC1.out); rintro e w140 ⟨v435, rfl, ho0, hb⟩; have n0_ := Aside0.mk (Kd.R_elder' (by (with_reducible repeat (first | apply Kd.R_alloc | apply Kd.R_drewN | apply Kd.R_drew)); exact HO432.out) (Kd.R_base ho0) hb); have n1_ := Aside0.mk (Kd.R_lower (Kd.R_new' ho0 (Kd.R_lt (by (with_reducible repeat (first | apply Kd.R_alloc | apply Kd.R_drewN | apply Kd.R_drew)); exact HO432.out))) (below_size (by repeat (first | (with_reducible first | exact HB.out | apply below_alloc | apply pw_below_drewN | apply below_drew1 | refine below_set ?_ GE428.out) | exact HB.out)))); have n2_ := Aside0.mk (blk_below (g := gb428) (o := .cells #[.int .i64 a0_0, .int .i64 a0_1] 32 (0, 0)) (by (with_reducible repeat (first | refine blk_drewN ?_ _ | refine blk_drew ?_ | refine blk_alloc ?_ _)); exact BK428.out) hb); have n3_ := Aside0.mk (below_step (by repeat (first | (with_reducible first | exact HB.out | apply below_alloc | apply pw_below_drewN | apply below_drew1 | refine below_set ?_ GE428.out) | exact HB.out)) hb); clear HO432; clear BK428; clear HB; have HO432 := n0_; have HO436 := n1_; have BK428 := n2_; have HB := n3_; clear n0_ n1_ n2_ n3_; (try clear hb); (try clear hb2); (try clear hk); (try clear hi); (try clear ho0); obtain ⟨Ao141, co141, eo141⟩ := Kd.R_slice HO432.out; subst eo141; obtain ⟨Ao142, co142, eo142⟩ := Kd.R_slice HO436.out; subst eo142) | (go_at_call 16; (with_reducible refine (kimberlitelaw01_alive.calls k  t440 _ A135.out).mono ?_); rintro e w143 ⟨rfl, hb⟩; have n0_ := Aside0.mk (Kd.R_below (by (with_reducible repeat (first | apply Kd.R_alloc | apply Kd.R_drewN | apply Kd.R_drew)); exact HO432.out) hb); have n1_ := Aside0.mk (Kd.R_below (by (with_reducible repeat (first | apply Kd.R_alloc | apply Kd.R_drewN | apply Kd.R_drew)); exact HO436.out) hb); have n2_ := Aside0.mk (blk_below (g := gb428) (o := .cells #[.int .i64 a0_0, .int .i64 a0_1] 32 (0, 0)) (by (with_reducible repeat (first | refine blk_drewN ?_ _ | refine blk_drew ?_ | refine blk_alloc ?_ _)); exact BK428.out) hb); have n3_ := Aside0.mk (below_step (by repeat (first | (with_reducible first | exact HB.out | apply below_alloc | apply pw_below_drewN | apply below_drew1 | refine below_set ?_ GE428.out) | exact HB.out)) hb); clear HO432; clear HO436; clear BK428; clear HB; have HO432 := n0_; have HO436 := n1_; have BK428 := n2_; have HB := n3_; clear n0_ n1_ n2_ n3_; (try clear hb); (try clear hb2); (try clear hk); (try clear hi)))
             go_ret
             exact ⟨by first | rfl | (simp [errW_none, errW_some] <;> rfl) | (simp [*, errW_none, errW_some] <;> rfl), by repeat (first | (with_reducible first | exact HB.out | apply below_alloc | apply pw_below_drewN | apply below_drew1 | refine below_set ?_ GE428.out) | exact HB.out)⟩
         · rw [if_neg c111] at H
           have c111b0 : ((t434.length : Int) == 0) = false := beq_eq_false_iff_ne.mpr c111
           have c111b1 : ((t434.length : Int) != 0) = true := bne_iff_ne.mpr c111
           have c111b2 : ¬ (t434 = []) := fun h_ => c111 (by rw [h_]; rfl)
           obtain rfl := Option.some.inj H
           go_enter Try.func5, Try.ntmps5
           go_wp2_with (first | ((with_reducible refine gate_dst (N := 3) rfl ?_); (try (refine gate_guard (by rfl) ?_; dsimp only)); refine box_event ?hg (N := 3) ?hd (cs := #[.int .i64 a0_0, .int .i64 a0_1]) (t := 32) ?hr ?_; (case hd => rfl); (case hg => rfl); (case hr => first | (go_simp; done) | (go_simp; rfl)); intro gb428 hg w144 hbox hb; have n0_ := Aside0.mk (below_step (by repeat (first | (with_reducible first | exact HB.out | apply below_alloc | apply pw_below_drewN | apply below_drew1) | exact HB.out)) hb); have n1_ := Aside0.mk (hbox); have n2_ := Aside0.mk ((by rw [hg]; exact (below_size (by repeat (first | (with_reducible first | exact HB.out | apply below_alloc | apply pw_below_drewN | apply below_drew1) | exact HB.out))) : w.heap.size ≤ gb428)); have n3_ := Aside0.mk ((by rw [hg]; exact (below_size (by repeat (first | (with_reducible first | exact HB.out | apply below_alloc | apply pw_below_drewN | apply below_drew1) | exact HB.out))) : w.heap.size ≤ gb428)); clear HB; have HB := n0_; have BK428 := n1_; have GW428 := n2_; have GE428 := n3_; clear n0_ n1_ n2_ n3_; clear hb hbox hg; have hcz145_0 : w144.cell? ⟨gb428, 0, none⟩ = some (.int .i64 a0_0) := (blk_cell BK428.out 0).trans rfl; have hcz145_1 : w144.cell? ⟨gb428, 1, none⟩ = some (.int .i64 a0_1) := (blk_cell BK428.out 1).trans rfl; have hfz145_0 := blk_frozen BK428.out 0; have hfz145_1 := blk_frozen BK428.out 1) | (go_at_call 25; (with_reducible refine (span_Cover.calls k a0_0 a0_1 _ _ l1 t430 t433 _ ?side1 ?side2 A8.out).mono ?_); (case side1 => repeat (first | exact (Kd.C_below HR1.out HB.out) | (with_reducible refine Kd.C_alloc ?_ _) | (with_reducible refine Kd.C_drewN ?_ _) | (with_reducible refine Kd.C_drew ?_))); (case side2 => exact HC1.out); rintro e w146 ⟨v431, rfl, ho0, hb⟩; have n0_ := Aside0.mk (Kd.R_lower ho0 (below_size (by repeat (first | (with_reducible first | exact HB.out | apply below_alloc | apply pw_below_drewN | apply below_drew1 | refine below_set ?_ GE428.out) | exact HB.out)))); have n1_ := Aside0.mk (blk_below (g := gb428) (o := .cells #[.int .i64 a0_0, .int .i64 a0_1] 32 (0, 0)) (by (with_reducible repeat (first | refine blk_drewN ?_ _ | refine blk_drew ?_ | refine blk_alloc ?_ _)); exact BK428.out) hb); have n2_ := Aside0.mk (below_step (by repeat (first | (with_reducible first | exact HB.out | apply below_alloc | apply pw_below_drewN | apply below_drew1 | refine below_set ?_ GE428.out) | exact HB.out)) hb); clear BK428; clear HB; have HO432 := n0_; have BK428 := n1_; have HB := n2_; clear n0_ n1_ n2_; (try clear hb); (try clear hb2); (try clear hk); (try clear hi); (try clear ho0); have hcz147_0 : w146.cell? ⟨gb428, 0, none⟩ = some (.int .i64 a0_0) := (blk_cell BK428.out 0).trans rfl; have hcz147_1 : w146.cell? ⟨gb428, 1, none⟩ = some (.int .i64 a0_1) := (blk_cell BK428.out 1).trans rfl; have hfz147_0 := blk_frozen BK428.out 0; have hfz147_1 := blk_frozen BK428.out 1) | (go_at_call 26; (with_reducible refine (span_Apart.calls k a0_0 a0_1 _ _ l1 t434 t437 _ ?side1 ?side2 A9.out).mono ?_); (case side1 => repeat (first | exact (Kd.C_below HR1.out HB.out) | (with_reducible refine Kd.C_alloc ?_ _) | (with_reducible refine Kd.C_drewN ?_ _) | (with_reducible refine Kd.C_drew ?_))); (case side2 => exact HC1.out); rintro e w148 ⟨v435, rfl, ho0, hb⟩; have n0_ := Aside0.mk (Kd.R_elder' (by (with_reducible repeat (first | apply Kd.R_alloc | apply Kd.R_drewN | apply Kd.R_drew)); exact HO432.out) (Kd.R_base ho0) hb); have n1_ := Aside0.mk (Kd.R_lower (Kd.R_new' ho0 (Kd.R_lt (by (with_reducible repeat (first | apply Kd.R_alloc | apply Kd.R_drewN | apply Kd.R_drew)); exact HO432.out))) (below_size (by repeat (first | (with_reducible first | exact HB.out | apply below_alloc | apply pw_below_drewN | apply below_drew1 | refine below_set ?_ GE428.out) | exact HB.out)))); have n2_ := Aside0.mk (blk_below (g := gb428) (o := .cells #[.int .i64 a0_0, .int .i64 a0_1] 32 (0, 0)) (by (with_reducible repeat (first | refine blk_drewN ?_ _ | refine blk_drew ?_ | refine blk_alloc ?_ _)); exact BK428.out) hb); have n3_ := Aside0.mk (below_step (by repeat (first | (with_reducible first | exact HB.out | apply below_alloc | apply pw_below_drewN | apply below_drew1 | refine below_set ?_ GE428.out) | exact HB.out)) hb); clear HO432; clear BK428; clear HB; have HO432 := n0_; have HO436 := n1_; have BK428 := n2_; have HB := n3_; clear n0_ n1_ n2_ n3_; (try clear hb); (try clear hb2); (try clear hk); (try clear hi); (try clear ho0); obtain ⟨Ao149, co149, eo149⟩ := Kd.R_slice HO432.out; subst eo149; obtain ⟨Ao150, co150, eo150⟩ := Kd.R_slice HO436.out; subst eo150))
           go_ret
           exact ⟨by first | rfl | (simp [errW_none, errW_some] <;> rfl) | (simp [*, errW_none, errW_some] <;> rfl), by repeat (first | (with_reducible first | exact HB.out | apply below_alloc | apply pw_below_drewN | apply below_drew1 | refine below_set ?_ GE428.out) | exact HB.out)⟩
       · rw [if_neg c110] at H
         have c110b0 : ((t430.length : Int) == 0) = false := beq_eq_false_iff_ne.mpr c110
         have c110b1 : ((t430.length : Int) != 0) = true := bne_iff_ne.mpr c110
         have c110b2 : ¬ (t430 = []) := fun h_ => c110 (by rw [h_]; rfl)
         obtain rfl := Option.some.inj H
         go_enter Try.func5, Try.ntmps5
         go_wp2_with (first | ((with_reducible refine gate_dst (N := 3) rfl ?_); (try (refine gate_guard (by rfl) ?_; dsimp only)); refine box_event ?hg (N := 3) ?hd (cs := #[.int .i64 a0_0, .int .i64 a0_1]) (t := 32) ?hr ?_; (case hd => rfl); (case hg => rfl); (case hr => first | (go_simp; done) | (go_simp; rfl)); intro gb428 hg w151 hbox hb; have n0_ := Aside0.mk (below_step (by repeat (first | (with_reducible first | exact HB.out | apply below_alloc | apply pw_below_drewN | apply below_drew1) | exact HB.out)) hb); have n1_ := Aside0.mk (hbox); have n2_ := Aside0.mk ((by rw [hg]; exact (below_size (by repeat (first | (with_reducible first | exact HB.out | apply below_alloc | apply pw_below_drewN | apply below_drew1) | exact HB.out))) : w.heap.size ≤ gb428)); have n3_ := Aside0.mk ((by rw [hg]; exact (below_size (by repeat (first | (with_reducible first | exact HB.out | apply below_alloc | apply pw_below_drewN | apply below_drew1) | exact HB.out))) : w.heap.size ≤ gb428)); clear HB; have HB := n0_; have BK428 := n1_; have GW428 := n2_; have GE428 := n3_; clear n0_ n1_ n2_ n3_; clear hb hbox hg; have hcz152_0 : w151.cell? ⟨gb428, 0, none⟩ = some (.int .i64 a0_0) := (blk_cell BK428.out 0).trans rfl; have hcz152_1 : w151.cell? ⟨gb428, 1, none⟩ = some (.int .i64 a0_1) := (blk_cell BK428.out 1).trans rfl; have hfz152_0 := blk_frozen BK428.out 0; have hfz152_1 := blk_frozen BK428.out 1) | (go_at_call 25; (with_reducible refine (span_Cover.calls k a0_0 a0_1 _ _ l1 t430 t433 _ ?side1 ?side2 A8.out).mono ?_); (case side1 => repeat (first | exact (Kd.C_below HR1.out HB.out) | (with_reducible refine Kd.C_alloc ?_ _) | (with_reducible refine Kd.C_drewN ?_ _) | (with_reducible refine Kd.C_drew ?_))); (case side2 => exact HC1.out); rintro e w153 ⟨v431, rfl, ho0, hb⟩; have n0_ := Aside0.mk (Kd.R_lower ho0 (below_size (by repeat (first | (with_reducible first | exact HB.out | apply below_alloc | apply pw_below_drewN | apply below_drew1 | refine below_set ?_ GE428.out) | exact HB.out)))); have n1_ := Aside0.mk (blk_below (g := gb428) (o := .cells #[.int .i64 a0_0, .int .i64 a0_1] 32 (0, 0)) (by (with_reducible repeat (first | refine blk_drewN ?_ _ | refine blk_drew ?_ | refine blk_alloc ?_ _)); exact BK428.out) hb); have n2_ := Aside0.mk (below_step (by repeat (first | (with_reducible first | exact HB.out | apply below_alloc | apply pw_below_drewN | apply below_drew1 | refine below_set ?_ GE428.out) | exact HB.out)) hb); clear BK428; clear HB; have HO432 := n0_; have BK428 := n1_; have HB := n2_; clear n0_ n1_ n2_; (try clear hb); (try clear hb2); (try clear hk); (try clear hi); (try clear ho0); have hcz154_0 : w153.cell? ⟨gb428, 0, none⟩ = some (.int .i64 a0_0) := (blk_cell BK428.out 0).trans rfl; have hcz154_1 : w153.cell? ⟨gb428, 1, none⟩ = some (.int .i64 a0_1) := (blk_cell BK428.out 1).trans rfl; have hfz154_0 := blk_frozen BK428.out 0; have hfz154_1 := blk_frozen BK428.out 1) | (go_at_call 26; (with_reducible refine (span_Apart.calls k a0_0 a0_1 _ _ l1 t434 t437 _ ?side1 ?side2 A9.out).mono ?_); (case side1 => repeat (first | exact (Kd.C_below HR1.out HB.out) | (with_reducible refine Kd.C_alloc ?_ _) | (with_reducible refine Kd.C_drewN ?_ _) | (with_reducible refine Kd.C_drew ?_))); (case side2 => exact HC1.out); rintro e w155 ⟨v435, rfl, ho0, hb⟩; have n0_ := Aside0.mk (Kd.R_elder' (by (with_reducible repeat (first | apply Kd.R_alloc | apply Kd.R_drewN | apply Kd.R_drew)); exact HO432.out) (Kd.R_base ho0) hb); have n1_ := Aside0.mk (Kd.R_lower (Kd.R_new' ho0 (Kd.R_lt (by (with_reducible repeat (first | apply Kd.R_alloc | apply Kd.R_drewN | apply Kd.R_drew)); exact HO432.out))) (below_size (by repeat (first | (with_reducible first | exact HB.out | apply below_alloc | apply pw_below_drewN | apply below_drew1 | refine below_set ?_ GE428.out) | exact HB.out)))); have n2_ := Aside0.mk (blk_below (g := gb428) (o := .cells #[.int .i64 a0_0, .int .i64 a0_1] 32 (0, 0)) (by (with_reducible repeat (first | refine blk_drewN ?_ _ | refine blk_drew ?_ | refine blk_alloc ?_ _)); exact BK428.out) hb); have n3_ := Aside0.mk (below_step (by repeat (first | (with_reducible first | exact HB.out | apply below_alloc | apply pw_below_drewN | apply below_drew1 | refine below_set ?_ GE428.out) | exact HB.out)) hb); clear HO432; clear BK428; clear HB; have HO432 := n0_; have HO436 := n1_; have BK428 := n2_; have HB := n3_; clear n0_ n1_ n2_ n3_; (try clear hb); (try clear hb2); (try clear hk); (try clear hi); (try clear ho0); obtain ⟨Ao156, co156, eo156⟩ := Kd.R_slice HO432.out; subst eo156))
         go_ret
         exact ⟨by first | rfl | (simp [errW_none, errW_some] <;> rfl) | (simp [*, errW_none, errW_some] <;> rfl), by repeat (first | (with_reducible first | exact HB.out | apply below_alloc | apply pw_below_drewN | apply below_drew1 | refine below_set ?_ GE428.out) | exact HB.out)⟩
     · rw [if_neg c109] at H
       have c109b0 : (t433 == t437) = false := beq_eq_false_iff_ne.mpr c109
       have c109b1 : (t433 != t437) = true := bne_iff_ne.mpr c109
       obtain rfl := Option.some.inj H
       go_enter Try.func5, Try.ntmps5
       go_wp2_with (first | ((with_reducible refine gate_dst (N := 3) rfl ?_); (try (refine gate_guard (by rfl) ?_; dsimp only)); refine box_event ?hg (N := 3) ?hd (cs := #[.int .i64 a0_0, .int .i64 a0_1]) (t := 32) ?hr ?_; (case hd => rfl); (case hg => rfl); (case hr => first | (go_simp; done) | (go_simp; rfl)); intro gb428 hg w157 hbox hb; have n0_ := Aside0.mk (below_step (by repeat (first | (with_reducible first | exact HB.out | apply below_alloc | apply pw_below_drewN | apply below_drew1) | exact HB.out)) hb); have n1_ := Aside0.mk (hbox); have n2_ := Aside0.mk ((by rw [hg]; exact (below_size (by repeat (first | (with_reducible first | exact HB.out | apply below_alloc | apply pw_below_drewN | apply below_drew1) | exact HB.out))) : w.heap.size ≤ gb428)); have n3_ := Aside0.mk ((by rw [hg]; exact (below_size (by repeat (first | (with_reducible first | exact HB.out | apply below_alloc | apply pw_below_drewN | apply below_drew1) | exact HB.out))) : w.heap.size ≤ gb428)); clear HB; have HB := n0_; have BK428 := n1_; have GW428 := n2_; have GE428 := n3_; clear n0_ n1_ n2_ n3_; clear hb hbox hg; have hcz158_0 : w157.cell? ⟨gb428, 0, none⟩ = some (.int .i64 a0_0) := (blk_cell BK428.out 0).trans rfl; have hcz158_1 : w157.cell? ⟨gb428, 1, none⟩ = some (.int .i64 a0_1) := (blk_cell BK428.out 1).trans rfl; have hfz158_0 := blk_frozen BK428.out 0; have hfz158_1 := blk_frozen BK428.out 1) | (go_at_call 25; (with_reducible refine (span_Cover.calls k a0_0 a0_1 _ _ l1 t430 t433 _ ?side1 ?side2 A8.out).mono ?_); (case side1 => repeat (first | exact (Kd.C_below HR1.out HB.out) | (with_reducible refine Kd.C_alloc ?_ _) | (with_reducible refine Kd.C_drewN ?_ _) | (with_reducible refine Kd.C_drew ?_))); (case side2 => exact HC1.out); rintro e w159 ⟨v431, rfl, ho0, hb⟩; have n0_ := Aside0.mk (Kd.R_lower ho0 (below_size (by repeat (first | (with_reducible first | exact HB.out | apply below_alloc | apply pw_below_drewN | apply below_drew1 | refine below_set ?_ GE428.out) | exact HB.out)))); have n1_ := Aside0.mk (blk_below (g := gb428) (o := .cells #[.int .i64 a0_0, .int .i64 a0_1] 32 (0, 0)) (by (with_reducible repeat (first | refine blk_drewN ?_ _ | refine blk_drew ?_ | refine blk_alloc ?_ _)); exact BK428.out) hb); have n2_ := Aside0.mk (below_step (by repeat (first | (with_reducible first | exact HB.out | apply below_alloc | apply pw_below_drewN | apply below_drew1 | refine below_set ?_ GE428.out) | exact HB.out)) hb); clear BK428; clear HB; have HO432 := n0_; have BK428 := n1_; have HB := n2_; clear n0_ n1_ n2_; (try clear hb); (try clear hb2); (try clear hk); (try clear hi); (try clear ho0); have hcz160_0 : w159.cell? ⟨gb428, 0, none⟩ = some (.int .i64 a0_0) := (blk_cell BK428.out 0).trans rfl; have hcz160_1 : w159.cell? ⟨gb428, 1, none⟩ = some (.int .i64 a0_1) := (blk_cell BK428.out 1).trans rfl; have hfz160_0 := blk_frozen BK428.out 0; have hfz160_1 := blk_frozen BK428.out 1) | (go_at_call 26; (with_reducible refine (span_Apart.calls k a0_0 a0_1 _ _ l1 t434 t437 _ ?side1 ?side2 A9.out).mono ?_); (case side1 => repeat (first | exact (Kd.C_below HR1.out HB.out) | (with_reducible refine Kd.C_alloc ?_ _) | (with_reducible refine Kd.C_drewN ?_ _) | (with_reducible refine Kd.C_drew ?_))); (case side2 => exact HC1.out); rintro e w161 ⟨v435, rfl, ho0, hb⟩; have n0_ := Aside0.mk (Kd.R_elder' (by (with_reducible repeat (first | apply Kd.R_alloc | apply Kd.R_drewN | apply Kd.R_drew)); exact HO432.out) (Kd.R_base ho0) hb); have n1_ := Aside0.mk (Kd.R_lower (Kd.R_new' ho0 (Kd.R_lt (by (with_reducible repeat (first | apply Kd.R_alloc | apply Kd.R_drewN | apply Kd.R_drew)); exact HO432.out))) (below_size (by repeat (first | (with_reducible first | exact HB.out | apply below_alloc | apply pw_below_drewN | apply below_drew1 | refine below_set ?_ GE428.out) | exact HB.out)))); have n2_ := Aside0.mk (blk_below (g := gb428) (o := .cells #[.int .i64 a0_0, .int .i64 a0_1] 32 (0, 0)) (by (with_reducible repeat (first | refine blk_drewN ?_ _ | refine blk_drew ?_ | refine blk_alloc ?_ _)); exact BK428.out) hb); have n3_ := Aside0.mk (below_step (by repeat (first | (with_reducible first | exact HB.out | apply below_alloc | apply pw_below_drewN | apply below_drew1 | refine below_set ?_ GE428.out) | exact HB.out)) hb); clear HO432; clear BK428; clear HB; have HO432 := n0_; have HO436 := n1_; have BK428 := n2_; have HB := n3_; clear n0_ n1_ n2_ n3_; (try clear hb); (try clear hb2); (try clear hk); (try clear hi); (try clear ho0)))
       go_ret
       exact ⟨by first | rfl | (simp [errW_none, errW_some] <;> rfl) | (simp [*, errW_none, errW_some] <;> rfl), by repeat (first | (with_reducible first | exact HB.out | apply below_alloc | apply pw_below_drewN | apply below_drew1 | refine below_set ?_ GE428.out) | exact HB.out)⟩
end Go.Proofs.Ytningpmoojnomaa.Pr
end
