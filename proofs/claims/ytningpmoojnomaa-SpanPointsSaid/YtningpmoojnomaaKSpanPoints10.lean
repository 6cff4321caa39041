/- What the proof of the law needs, trimmed and merged by wip/pack.py out of the texts YtningpmoojnomaaPrx21, YtningpmoojnomaaRefs, YtningpmoojnomaaPrx29. No condition. -/
import Derived.Test.YtningpmoojnomaaKSpanPoints0
import Derived.Test.YtningpmoojnomaaKSpanPoints1
import Derived.Test.YtningpmoojnomaaKSpanPoints2
import Derived.Test.YtningpmoojnomaaKSpanPoints3
import Derived.Test.YtningpmoojnomaaKSpanPoints4
import Derived.Test.YtningpmoojnomaaKSpanPoints5
import Derived.Test.YtningpmoojnomaaKSpanPoints6
import Derived.Test.YtningpmoojnomaaKSpanPoints7
import Derived.Test.YtningpmoojnomaaKSpanPoints8
import Derived.Test.YtningpmoojnomaaKSpanPoints9
section
namespace Go.Proofs.Ytningpmoojnomaa.Pr
open Go.RowKit Go.Proofs.YtningpmoojnomaaW.PrintWords Go.Proofs.YtningpmoojnomaaW.PrintLast Go.Proofs.YtningpmoojnomaaW.PrintMore
attribute [local go_sem] max2_int min2_int max_two min_two max_three min_three max_four min_four   -- for this text's walks alone
set_option linter.unusedVariables false
set_option linter.unusedSimpArgs false
mutual
def kimberliteref01_Trays.l0 : Nat → List (S32) → List Int → List Bool → Int → List Int → Int → Option (List Int × Int × Int)
 | 0, _, _, _, _, _, _ => none
 | k + 1, x0, x6, x7, x8, x9, x10 => if x10 < (x9.length : Int) then (if 0 ≤ x10 then (if 0 ≤ (rd x9 x10) then (if (rd x9 x10) < (x0.length : Int) then (kimberliteref01_Trays.l1 k x0 x6 x7 x8 x9 x10 0 false ((rd_T32 x0 (rd x9 x10)).f0) ((rd_T32 x0 (rd x9 x10)).f1)) else (none)) else (none)) else (none)) else (some (x6, x8, 0))
def kimberliteref01_Trays.l1 : Nat → List (S32) → List Int → List Bool → Int → List Int → Int → Int → Bool → Int → Int → Option (List Int × Int × Int)
 | 0, _, _, _, _, _, _, _, _, _, _ => none
 | k + 1, x0, x6, x7, x8, x9, x10, x12, x13, x322000, x322001 => if x13 = true then (if 0 ≤ x10 then (if x10 < (x9.length : Int) then (if 0 ≤ (rd x9 x10) then (if (rd x9 x10) < (x6.length : Int) then (if (rd x9 x10) < (x7.length : Int) then (kimberliteref01_Trays.l0 k x0 (x6.set ((rd x9 x10) : Int).toNat x12) (x7.set ((rd x9 x10) : Int).toNat true) (mx x8 (wrap64 (x12 + 1))) x9 (wrap64 (x10 + 1))) else (none)) else (none)) else (none)) else (none)) else (none)) else (kimberliteref01_Trays.l2 k x0 x6 x7 x8 x9 x10 x12 true 0 x322000 x322001)
def kimberliteref01_Trays.l2 : Nat → List (S32) → List Int → List Bool → Int → List Int → Int → Int → Bool → Int → Int → Int → Option (List Int × Int × Int)
 | 0, _, _, _, _, _, _, _, _, _, _, _ => none
 | k + 1, x0, x6, x7, x8, x9, x10, x12, x13, x14, x322000, x322001 => if x14 < (x0.length : Int) then (if 0 ≤ x14 then (if x14 < (x7.length : Int) then (if rdOf false x7 x14 = true then (if x14 < (x6.length : Int) then (if (rd x6 x14) = x12 then (if ((rd_T32 x0 x14).f0) < x322001 then (kimberliteref01_Trays.j3 k x0 x6 x7 x8 x9 x10 x12 x13 x14 (decide (x322000 < ((rd_T32 x0 x14).f1))) x322000 x322001) else (kimberliteref01_Trays.j3 k x0 x6 x7 x8 x9 x10 x12 x13 x14 false x322000 x322001)) else (kimberliteref01_Trays.j3 k x0 x6 x7 x8 x9 x10 x12 x13 x14 false x322000 x322001)) else (none)) else (kimberliteref01_Trays.j3 k x0 x6 x7 x8 x9 x10 x12 x13 x14 false x322000 x322001)) else (none)) else (none)) else (if x13 = true then (kimberliteref01_Trays.l1 k x0 x6 x7 x8 x9 x10 x12 x13 x322000 x322001) else (kimberliteref01_Trays.l1 k x0 x6 x7 x8 x9 x10 (wrap64 (x12 + 1)) x13 x322000 x322001))
def kimberliteref01_Trays.j3 : Nat → List (S32) → List Int → List Bool → Int → List Int → Int → Int → Bool → Int → Bool → Int → Int → Option (List Int × Int × Int)
 | 0, _, _, _, _, _, _, _, _, _, _, _, _ => none
 | k + 1, x0, x6, x7, x8, x9, x10, x12, x13, x14, x80, x322000, x322001 => if x80 = true then (kimberliteref01_Trays.l2 k x0 x6 x7 x8 x9 x10 x12 false (wrap64 (x14 + 1)) x322000 x322001) else (kimberliteref01_Trays.l2 k x0 x6 x7 x8 x9 x10 x12 x13 (wrap64 (x14 + 1)) x322000 x322001)
end
def kimberliteref01_Trays.f (k : Nat) (l0 : List (S32)) : Option (List Int × Int × Int) := (kimberliteref01_List.f k l0).bind fun t309 => (if t309 = 0 then (if 0 ≤ (l0.length : Int) then (if ((l0.length : Int) : Int).toNat ≤ 35184372088832 then (if ((l0.length : Int) : Int).toNat ≤ 281474976710656 then ((kimberliteref01_sorted.f k l0 false).bind fun t316 => (kimberliteref01_Trays.l0 k l0 (List.replicate ((l0.length : Int) : Int).toNat 0) (List.replicate ((l0.length : Int) : Int).toNat false) 0 t316 0)) else (none)) else (none)) else (none)) else (some (([] : List Int), 0, t309)))
theorem kimberliteref01_Trays.mono_l : ∀ k, (∀ y0 y1 y2 y3 y4 y5, LeO (kimberliteref01_Trays.l0 k y0 y1 y2 y3 y4 y5) (kimberliteref01_Trays.l0 (k + 1) y0 y1 y2 y3 y4 y5)) ∧ (∀ y0 y1 y2 y3 y4 y5 y6 y7 y8 y9, LeO (kimberliteref01_Trays.l1 k y0 y1 y2 y3 y4 y5 y6 y7 y8 y9) (kimberliteref01_Trays.l1 (k + 1) y0 y1 y2 y3 y4 y5 y6 y7 y8 y9)) ∧ (∀ y0 y1 y2 y3 y4 y5 y6 y7 y8 y9 y10, LeO (kimberliteref01_Trays.l2 k y0 y1 y2 y3 y4 y5 y6 y7 y8 y9 y10) (kimberliteref01_Trays.l2 (k + 1) y0 y1 y2 y3 y4 y5 y6 y7 y8 y9 y10)) ∧ (∀ y0 y1 y2 y3 y4 y5 y6 y7 y8 y9 y10 y11, LeO (kimberliteref01_Trays.j3 k y0 y1 y2 y3 y4 y5 y6 y7 y8 y9 y10 y11) (kimberliteref01_Trays.j3 (k + 1) y0 y1 y2 y3 y4 y5 y6 y7 y8 y9 y10 y11))
 | 0 => ⟨fun _ _ _ _ _ _ r h => by simp [kimberliteref01_Trays.l0] at h, fun _ _ _ _ _ _ _ _ _ _ r h => by simp [kimberliteref01_Trays.l1] at h, fun _ _ _ _ _ _ _ _ _ _ _ r h => by simp [kimberliteref01_Trays.l2] at h, fun _ _ _ _ _ _ _ _ _ _ _ _ r h => by simp [kimberliteref01_Trays.j3] at h⟩
 | k + 1 => by
  obtain ⟨ih0, ih1, ih2, ih3⟩ := kimberliteref01_Trays.mono_l k
  refine ⟨?_, ?_, ?_, ?_⟩
  · intro y0 y1 y2 y3 y4 y5
    unfold kimberliteref01_Trays.l0
    repeat' first
    | (with_reducible exact ih0 _ _ _ _ _ _)
    | (with_reducible exact ih1 _ _ _ _ _ _ _ _ _ _)
    | (with_reducible exact ih2 _ _ _ _ _ _ _ _ _ _ _)
    | (with_reducible exact ih3 _ _ _ _ _ _ _ _ _ _ _ _)
    | (with_reducible exact kimberliteref01_List.mono _ _)
    | (with_reducible exact kimberliteref01_sorted.mono _ _ _)
    | (with_reducible exact LeO.refl _)
    | (with_reducible exact LeO.none _)
    | (with_reducible refine LeO.ite ?_ ?_)
    | (with_reducible refine LeO.bind ?_ (fun _ => ?_))
    | exact ih0 _ _ _ _ _ _
    | exact ih1 _ _ _ _ _ _ _ _ _ _
    | exact ih2 _ _ _ _ _ _ _ _ _ _ _
    | exact ih3 _ _ _ _ _ _ _ _ _ _ _ _
    | exact kimberliteref01_List.mono _ _
    | exact kimberliteref01_sorted.mono _ _ _
    | exact LeO.none _
    | refine LeO.ite ?_ ?_
    | refine LeO.bind ?_ (fun _ => ?_)
  · intro y0 y1 y2 y3 y4 y5 y6 y7 y8 y9
    unfold kimberliteref01_Trays.l1
    repeat' first
    | (with_reducible exact ih0 _ _ _ _ _ _)
    | (with_reducible exact ih1 _ _ _ _ _ _ _ _ _ _)
    | (with_reducible exact ih2 _ _ _ _ _ _ _ _ _ _ _)
    | (with_reducible exact ih3 _ _ _ _ _ _ _ _ _ _ _ _)
    | (with_reducible exact kimberliteref01_List.mono _ _)
    | (with_reducible exact kimberliteref01_sorted.mono _ _ _)
    | (with_reducible exact LeO.refl _)
    | (with_reducible exact LeO.none _)
    | (with_reducible refine LeO.ite ?_ ?_)
    | (with_reducible refine LeO.bind ?_ (fun _ => ?_))
    | exact ih0 _ _ _ _ _ _
    | exact ih1 _ _ _ _ _ _ _ _ _ _
    | exact ih2 _ _ _ _ _ _ _ _ _ _ _
    | exact ih3 _ _ _ _ _ _ _ _ _ _ _ _
    | exact kimberliteref01_List.mono _ _
    | exact kimberliteref01_sorted.mono _ _ _
    | exact LeO.none _
    | refine LeO.ite ?_ ?_
    | refine LeO.bind ?_ (fun _ => ?_)
  · intro y0 y1 y2 y3 y4 y5 y6 y7 y8 y9 y10
    unfold kimberliteref01_Trays.l2
    repeat' first
    | (with_reducible exact ih0 _ _ _ _ _ _)
    | (with_reducible exact ih1 _ _ _ _ _ _ _ _ _ _)
    | (with_reducible exact ih2 _ _ _ _ _ _ _ _ _ _ _)
    | (with_reducible exact ih3 _ _ _ _ _ _ _ _ _ _ _ _)
    | (with_reducible exact kimberliteref01_List.mono _ _)
    | (with_reducible exact kimberliteref01_sorted.mono _ _ _)
    | (with_reducible exact LeO.refl _)
    | (with_reducible exact LeO.none _)
    | (with_reducible refine LeO.ite ?_ ?_)
    | (with_reducible refine LeO.bind ?_ (fun _ => ?_))
    | exact ih0 _ _ _ _ _ _
    | exact ih1 _ _ _ _ _ _ _ _ _ _
    | exact ih2 _ _ _ _ _ _ _ _ _ _ _
    | exact ih3 _ _ _ _ _ _ _ _ _ _ _ _
    | exact kimberliteref01_List.mono _ _
    | exact kimberliteref01_sorted.mono _ _ _
    | exact LeO.none _
    | refine LeO.ite ?_ ?_
    | refine LeO.bind ?_ (fun _ => ?_)
  · intro y0 y1 y2 y3 y4 y5 y6 y7 y8 y9 y10 y11
    unfold kimberliteref01_Trays.j3
    repeat' first
    | (with_reducible exact ih0 _ _ _ _ _ _)
    | (with_reducible exact ih1 _ _ _ _ _ _ _ _ _ _)
    | (with_reducible exact ih2 _ _ _ _ _ _ _ _ _ _ _)
    | (with_reducible exact ih3 _ _ _ _ _ _ _ _ _ _ _ _)
    | (with_reducible exact kimberliteref01_List.mono _ _)
    | (with_reducible exact kimberliteref01_sorted.mono _ _ _)
    | (with_reducible exact LeO.refl _)
    | (with_reducible exact LeO.none _)
    | (with_reducible refine LeO.ite ?_ ?_)
    | (with_reducible refine LeO.bind ?_ (fun _ => ?_))
    | exact ih0 _ _ _ _ _ _
    | exact ih1 _ _ _ _ _ _ _ _ _ _
    | exact ih2 _ _ _ _ _ _ _ _ _ _ _
    | exact ih3 _ _ _ _ _ _ _ _ _ _ _ _
    | exact kimberliteref01_List.mono _ _
    | exact kimberliteref01_sorted.mono _ _ _
    | exact LeO.none _
    | refine LeO.ite ?_ ?_
    | refine LeO.bind ?_ (fun _ => ?_)
theorem kimberliteref01_Trays.mono : ∀ a0 k, LeO (kimberliteref01_Trays.f k a0) (kimberliteref01_Trays.f (k + 1) a0) := by
 intro a0 k
 obtain ⟨ih0, ih1, ih2, ih3⟩ := kimberliteref01_Trays.mono_l k
 unfold kimberliteref01_Trays.f
 repeat' first
  | (with_reducible exact ih0 _ _ _ _ _ _)
  | (with_reducible exact ih1 _ _ _ _ _ _ _ _ _ _)
  | (with_reducible exact ih2 _ _ _ _ _ _ _ _ _ _ _)
  | (with_reducible exact ih3 _ _ _ _ _ _ _ _ _ _ _ _)
  | (with_reducible exact kimberliteref01_List.mono _ _)
  | (with_reducible exact kimberliteref01_sorted.mono _ _ _)
  | (with_reducible exact LeO.refl _)
  | (with_reducible exact LeO.none _)
  | (with_reducible refine LeO.ite ?_ ?_)
  | (with_reducible refine LeO.bind ?_ (fun _ => ?_))
  | exact ih0 _ _ _ _ _ _
  | exact ih1 _ _ _ _ _ _ _ _ _ _
  | exact ih2 _ _ _ _ _ _ _ _ _ _ _
  | exact ih3 _ _ _ _ _ _ _ _ _ _ _ _
  | exact kimberliteref01_List.mono _ _
  | exact kimberliteref01_sorted.mono _ _ _
  | exact LeO.none _
  | refine LeO.ite ?_ ?_
  | refine LeO.bind ?_ (fun _ => ?_)
set_option maxHeartbeats 8000000 in
set_option maxRecDepth 100000 in
theorem kimberliteref01_Trays.calls (k : Nat) (A0 : Option Addr) (c0 : Nat) (l0 : List (S32)) (r1 : List Int) (r2 : Int) (r3 : Int) (w : World) (hr0 : Kd.C k32 w A0 l0.length l0) (hc0 : l0.length ≤ c0) (h : kimberliteref01_Trays.f k l0 = some (r1, r2, r3)) :
 Calls Try.prog 48 #[.slice A0 l0.length c0] w fun e w' => ∃ v0_ : Value, e = .returned (.tuple #[v0_, .int .i64 r2, .int .i64 r3]) ∧ Kd.R (Kd.int .i64) 3 w' w.heap.size (fun _ => True) v0_ r1 ∧ Below w.heap.size w w' := by
 have hu32 := Try.underlying32
 have HR0 := Aside0.mk hr0
 have HC0 := Aside0.mk hc0
 clear hr0 hc0
 have HB := Aside0.mk (Below.refl w.heap.size w)
 have H : ((kimberliteref01_List.f k l0).bind fun t309 => (if t309 = 0 then (if 0 ≤ (l0.length : Int) then (if ((l0.length : Int) : Int).toNat ≤ 35184372088832 then (if ((l0.length : Int) : Int).toNat ≤ 281474976710656 then ((kimberliteref01_sorted.f k l0 false).bind fun t316 => (kimberliteref01_Trays.l0 k l0 (List.replicate ((l0.length : Int) : Int).toNat 0) (List.replicate ((l0.length : Int) : Int).toNat false) 0 t316 0)) else (none)) else (none)) else (none)) else (some (([] : List Int), 0, t309)))) = some (r1, r2, r3) := h
 clear h
 replace H := Option.bind_eq_some_iff.mp H
 obtain ⟨t309, A20, H⟩ := H
 replace H : (if t309 = 0 then (if 0 ≤ (l0.length : Int) then (if ((l0.length : Int) : Int).toNat ≤ 35184372088832 then (if ((l0.length : Int) : Int).toNat ≤ 281474976710656 then ((kimberliteref01_sorted.f k l0 false).bind fun t316 => (kimberliteref01_Trays.l0 k l0 (List.replicate ((l0.length : Int) : Int).toNat 0) (List.replicate ((l0.length : Int) : Int).toNat false) 0 t316 0)) else (none)) else (none)) else (none)) else (some (([] : List Int), 0, t309))) = some (r1, r2, r3) := H
 have A2 := Aside0.mk A20
 clear A20
 by_cases c3 : t309 = 0
 · rw [if_pos c3] at H
   have c3b0 : (t309 == 0) = true := beq_iff_eq.mpr c3
   have c3b1 : (t309 != 0) = false := bne_eq_false_iff_eq.mpr c3
   clear c3
   by_cases c4 : 0 ≤ (l0.length : Int)
   · rw [if_pos c4] at H
     have c4b0 := eq_true c4
     have c4b1 : decide (0 ≤ (l0.length : Int)) = true := decide_eq_true c4
     clear c4
     by_cases c5 : ((l0.length : Int) : Int).toNat ≤ 35184372088832
     · rw [if_pos c5] at H
       have c5b0 := eq_true c5
       have c5b1 : decide (((l0.length : Int) : Int).toNat ≤ 35184372088832) = true := decide_eq_true c5
       clear c5
       obtain ⟨y310, hy310⟩ : ∃ y_ : List Int, y_ = (List.replicate ((l0.length : Int) : Int).toNat 0) := ⟨_, rfl⟩
       replace H : (if ((l0.length : Int) : Int).toNat ≤ 281474976710656 then ((kimberliteref01_sorted.f k l0 false).bind fun t316 => (kimberliteref01_Trays.l0 k l0 y310 (List.replicate ((l0.length : Int) : Int).toNat false) 0 t316 0)) else (none)) = some (r1, r2, r3) := by first | (rw [hy310]; with_reducible exact H) | (have H2_ := (Option.bind_some _ _).symm.trans H; rw [hy310]; with_reducible exact H2_) | (have H2_ := (Option.bind_some _ _).symm.trans H; with_reducible exact H2_) | with_reducible exact H | (rw [hy310]; exact H) | exact H
       have Ny310 := Aside0.mk hy310
       clear hy310
       by_cases c6 : ((l0.length : Int) : Int).toNat ≤ 281474976710656
       · rw [if_pos c6] at H
         have c6b0 := eq_true c6
         have c6b1 : decide (((l0.length : Int) : Int).toNat ≤ 281474976710656) = true := decide_eq_true c6
         clear c6
         obtain ⟨y313, hy313⟩ : ∃ y_ : List Bool, y_ = (List.replicate ((l0.length : Int) : Int).toNat false) := ⟨_, rfl⟩
         replace H : ((kimberliteref01_sorted.f k l0 false).bind fun t316 => (kimberliteref01_Trays.l0 k l0 y310 y313 0 t316 0)) = some (r1, r2, r3) := by first | (rw [hy313]; with_reducible exact H) | (have H2_ := (Option.bind_some _ _).symm.trans H; rw [hy313]; with_reducible exact H2_) | (have H2_ := (Option.bind_some _ _).symm.trans H; with_reducible exact H2_) | with_reducible exact H | (rw [hy313]; exact H) | exact H
         have Ny313 := Aside0.mk hy313
         clear hy313
         replace H := Option.bind_eq_some_iff.mp H
         obtain ⟨t316, A70, H⟩ := H
         replace H : (kimberliteref01_Trays.l0 k l0 y310 y313 0 t316 0) = some (r1, r2, r3) := H
         have A7 := Aside0.mk A70
         clear A70
         have H' := Aside0.mk H
         clear H
         go_enter Try.func48, Try.ntmps48
         go_wp2_with (first | (go_at_call 62; (with_reducible refine (kimberliteref01_List.calls k _ _ l0 t309 _ ?side1 ?side2 A2.out).mono ?_); (case side1 => repeat (first | exact HR0.out | (with_reducible refine Kd.C_alloc ?_ _) | (with_reducible refine Kd.C_drewN ?_ _) | (with_reducible refine Kd.C_drew ?_))); (case side2 => exact HC0.out); rintro e w8 ⟨rfl, hb⟩; have n0_ := Aside0.mk (below_step (by repeat (first | (with_reducible first | exact HB.out | apply below_alloc | apply pw_below_drewN | apply below_drew1) | exact HB.out)) hb); clear HB; have HB := n0_; clear n0_; (try clear hb); (try clear hb2); (try clear hk); (try clear hi)) | ((with_reducible refine gate_dst (N := 22) rfl ?_); refine Kd.R_make (Kd.int .i64) _ 3 rfl (N := 22) rfl 33 _ _ rfl (l0.length : Int) rfl rfl Try.underlying33 (.int .i64 0) 8 info3 rfl (by decide) (by omega) 0 (ok := fun _ => True) (okp := fun _ => True) rfl (fun _ hk => hk) trivial (of_decide_eq_true (by first | (with_reducible assumption) | assumption)) (Nat.le_trans (Nat.mul_le_mul_right _ (of_decide_eq_true (by first | (with_reducible assumption) | assumption) : (l0.length : Int).toNat ≤ 35184372088832)) (by omega)) (Below.refl _ _) (Nat.le_refl _) ?_; intro v311 w9 ho10 hb hg_ hnew_; clear hg_ hnew_; (first | rw [← Ny310.out] at ho10 | (simp only [Int.reduceToNat] at ho10; rw [← Ny310.out] at ho10)); have n0_ := Aside0.mk (Kd.R_lower ho10 (below_size (by repeat (first | (with_reducible first | exact HB.out | apply below_alloc | apply pw_below_drewN | apply below_drew1) | exact HB.out)))); have n1_ := Aside0.mk (below_step (by repeat (first | (with_reducible first | exact HB.out | apply below_alloc | apply pw_below_drewN | apply below_drew1) | exact HB.out)) hb); clear HB; have HO312 := n0_; have HB := n1_; clear n0_ n1_; clear hb ho10) | ((with_reducible refine gate_dst (N := 25) rfl ?_); refine Kd.R_make Kd.bool _ 4 rfl (N := 25) rfl 40 _ _ rfl (l0.length : Int) rfl rfl Try.underlying40 (.bool false) 1 info4 rfl (by decide) (by omega) false (ok := fun _ => True) (okp := fun _ => True) rfl (fun _ hk => hk) trivial (of_decide_eq_true (by first | (with_reducible assumption) | assumption)) (Nat.le_trans (Nat.mul_le_mul_right _ (of_decide_eq_true (by first | (with_reducible assumption) | assumption) : (l0.length : Int).toNat ≤ 281474976710656)) (by omega)) (Below.refl _ _) (Nat.le_refl _) ?_; intro v314 w11 ho12 hb hg_ hnew_; clear hg_ hnew_; (first | rw [← Ny313.out] at ho12 | (simp only [Int.reduceToNat] at ho12; rw [← Ny313.out] at ho12)); have n0_ := Aside0.mk (Kd.R_below (by (with_reducible repeat (first | apply Kd.R_alloc | apply Kd.R_drewN | apply Kd.R_drew)); exact HO312.out) hb); have n1_ := Aside0.mk (Kd.R_lower ho12 (below_size (by repeat (first | (with_reducible first | exact HB.out | apply below_alloc | apply pw_below_drewN | apply below_drew1) | exact HB.out)))); have n2_ := Aside0.mk (below_step (by repeat (first | (with_reducible first | exact HB.out | apply below_alloc | apply pw_below_drewN | apply below_drew1) | exact HB.out)) hb); clear HO312; clear HB; have HO312 := n0_; have HO315 := n1_; have HB := n2_; clear n0_ n1_ n2_; clear hb ho12) | (go_at_call 84; (with_reducible refine (kimberliteref01_sorted.calls k _ _ l0 false t316 _ ?side1 ?side2 A7.out).mono ?_); (case side1 => repeat (first | exact (Kd.C_below HR0.out HB.out) | (with_reducible refine Kd.C_alloc ?_ _) | (with_reducible refine Kd.C_drewN ?_ _) | (with_reducible refine Kd.C_drew ?_))); (case side2 => exact HC0.out); rintro e w13 ⟨v317, rfl, ho0, hb⟩; have n0_ := Aside0.mk (Kd.R_elder' (by (with_reducible repeat (first | apply Kd.R_alloc | apply Kd.R_drewN | apply Kd.R_drew)); exact HO312.out) (Kd.R_base ho0) hb); have n1_ := Aside0.mk (Kd.R_below (by (with_reducible repeat (first | apply Kd.R_alloc | apply Kd.R_drewN | apply Kd.R_drew)); exact HO315.out) hb); have n2_ := Aside0.mk (Kd.R_lower (Kd.R_new' ho0 (Kd.R_lt (by (with_reducible repeat (first | apply Kd.R_alloc | apply Kd.R_drewN | apply Kd.R_drew)); exact HO312.out))) (below_size (by repeat (first | (with_reducible first | exact HB.out | apply below_alloc | apply pw_below_drewN | apply below_drew1) | exact HB.out)))); have n3_ := Aside0.mk (below_step (by repeat (first | (with_reducible first | exact HB.out | apply below_alloc | apply pw_below_drewN | apply below_drew1) | exact HB.out)) hb); clear HO312; clear HO315; clear HB; have HO312 := n0_; have HO315 := n1_; have HO318 := n2_; have HB := n3_; clear n0_ n1_ n2_ n3_; (try clear hb); (try clear hb2); (try clear hk); (try clear hi); (try clear ho0)))
         repeat (go_quiet (first | (go_at_call 62; (with_reducible refine (kimberliteref01_List.calls k _ _ l0 t309 _ ?side1 ?side2 A2.out).mono ?_); (case side1 => repeat (first | exact HR0.out | (with_reducible refine Kd.C_alloc ?_ _) | (with_reducible refine Kd.C_drewN ?_ _) | (with_reducible refine Kd.C_drew ?_))); (case side2 => exact HC0.out); rintro e w8 ⟨rfl, hb⟩; have n0_ := Aside0.mk (below_step (by repeat (first | (with_reducible first | exact HB.out | apply below_alloc | apply pw_below_drewN | apply below_drew1) | exact HB.out)) hb); clear HB; have HB := n0_; clear n0_; (try clear hb); (try clear hb2); (try clear hk); (try clear hi)) | (go_at_call 84; (with_reducible refine (kimberliteref01_sorted.calls k _ _ l0 false t316 _ ?side1 ?side2 A7.out).mono ?_); (case side1 => repeat (first | exact (Kd.C_below HR0.out HB.out) | (with_reducible refine Kd.C_alloc ?_ _) | (with_reducible refine Kd.C_drewN ?_ _) | (with_reducible refine Kd.C_drew ?_))); (case side2 => exact HC0.out); rintro e w13 ⟨v317, rfl, ho0, hb⟩; have n0_ := Aside0.mk (Kd.R_elder' (by (with_reducible repeat (first | apply Kd.R_alloc | apply Kd.R_drewN | apply Kd.R_drew)); exact HO312.out) (Kd.R_base ho0) hb); have n1_ := Aside0.mk (Kd.R_below (by (with_reducible repeat (first | apply Kd.R_alloc | apply Kd.R_drewN | apply Kd.R_drew)); exact HO315.out) hb); have n2_ := Aside0.mk (Kd.R_lower (Kd.R_new' ho0 (Kd.R_lt (by (with_reducible repeat (first | apply Kd.R_alloc | apply Kd.R_drewN | apply Kd.R_drew)); exact HO312.out))) (below_size (by repeat (first | (with_reducible first | exact HB.out | apply below_alloc | apply pw_below_drewN | apply below_drew1) | exact HB.out)))); have n3_ := Aside0.mk (below_step (by repeat (first | (with_reducible first | exact HB.out | apply below_alloc | apply pw_below_drewN | apply below_drew1) | exact HB.out)) hb); clear HO312; clear HO315; clear HB; have HO312 := n0_; have HO315 := n1_; have HO318 := n2_; have HB := n3_; clear n0_ n1_ n2_ n3_; (try clear hb); (try clear hb2); (try clear hk); (try clear hi); (try clear ho0))); try go_wp2_with (first | (go_at_call 62; (with_reducible refine (kimberliteref01_List.calls k _ _ l0 t309 _ ?side1 ?side2 A2.out).mono ?_); (case side1 => repeat (first | exact HR0.out | (with_reducible refine Kd.C_alloc ?_ _) | (with_reducible refine Kd.C_drewN ?_ _) | (with_reducible refine Kd.C_drew ?_))); (case side2 => exact HC0.out); rintro e w8 ⟨rfl, hb⟩; have n0_ := Aside0.mk (below_step (by repeat (first | (with_reducible first | exact HB.out | apply below_alloc | apply pw_below_drewN | apply below_drew1) | exact HB.out)) hb); clear HB; have HB := n0_; clear n0_; (try clear hb); (try clear hb2); (try clear hk); (try clear hi)) | ((with_reducible refine gate_dst (N := 22) rfl ?_); refine Kd.R_make (Kd.int .i64) _ 3 rfl (N := 22) rfl 33 _ _ rfl (l0.length : Int) rfl rfl Try.underlying33 (.int .i64 0) 8 info3 rfl (by decide) (by omega) 0 (ok := fun _ => True) (okp := fun _ => True) rfl (fun _ hk => hk) trivial (of_decide_eq_true (by first | (with_reducible assumption) | assumption)) (Nat.le_trans (Nat.mul_le_mul_right _ (of_decide_eq_true (by first | (with_reducible assumption) | assumption) : (l0.length : Int).toNat ≤ 35184372088832)) (by omega)) (Below.refl _ _) (Nat.le_refl _) ?_; intro v311 w9 ho10 hb hg_ hnew_; clear hg_ hnew_; (first | rw [← Ny310.out] at ho10 | (simp only [Int.reduceToNat] at ho10; rw [← Ny310.out] at ho10)); have n0_ := Aside0.mk (Kd.R_lower ho10 (below_size (by repeat (first | (with_reducible first | exact HB.out | apply below_alloc | apply pw_below_drewN | apply below_drew1) | exact HB.out)))); have n1_ := Aside0.mk (below_step (by repeat (first | (with_reducible first | exact HB.out | apply below_alloc | apply pw_below_drewN | apply below_drew1) | exact HB.out)) hb); clear HB; have HO312 := n0_; have HB := n1_; clear n0_ n1_; clear hb ho10) | ((with_reducible refine gate_dst (N := 25) rfl ?_); refine Kd.R_make Kd.bool _ 4 rfl (N := 25) rfl 40 _ _ rfl (l0.length : Int) rfl rfl Try.underlying40 (.bool false) 1 info4 rfl (by decide) (by omega) false (ok := fun _ => True) (okp := fun _ => True) rfl (fun _ hk => hk) trivial (of_decide_eq_true (by first | (with_reducible assumption) | assumption)) (Nat.le_trans (Nat.mul_le_mul_right _ (of_decide_eq_true (by first | (with_reducible assumption) | assumption) : (l0.length : Int).toNat ≤ 281474976710656)) (by omega)) (Below.refl _ _) (Nat.le_refl _) ?_; intro v314 w11 ho12 hb hg_ hnew_; clear hg_ hnew_; (first | rw [← Ny313.out] at ho12 | (simp only [Int.reduceToNat] at ho12; rw [← Ny313.out] at ho12)); have n0_ := Aside0.mk (Kd.R_below (by (with_reducible repeat (first | apply Kd.R_alloc | apply Kd.R_drewN | apply Kd.R_drew)); exact HO312.out) hb); have n1_ := Aside0.mk (Kd.R_lower ho12 (below_size (by repeat (first | (with_reducible first | exact HB.out | apply below_alloc | apply pw_below_drewN | apply below_drew1) | exact HB.out)))); have n2_ := Aside0.mk (below_step (by repeat (first | (with_reducible first | exact HB.out | apply below_alloc | apply pw_below_drewN | apply below_drew1) | exact HB.out)) hb); clear HO312; clear HB; have HO312 := n0_; have HO315 := n1_; have HB := n2_; clear n0_ n1_ n2_; clear hb ho12) | (go_at_call 84; (with_reducible refine (kimberliteref01_sorted.calls k _ _ l0 false t316 _ ?side1 ?side2 A7.out).mono ?_); (case side1 => repeat (first | exact (Kd.C_below HR0.out HB.out) | (with_reducible refine Kd.C_alloc ?_ _) | (with_reducible refine Kd.C_drewN ?_ _) | (with_reducible refine Kd.C_drew ?_))); (case side2 => exact HC0.out); rintro e w13 ⟨v317, rfl, ho0, hb⟩; have n0_ := Aside0.mk (Kd.R_elder' (by (with_reducible repeat (first | apply Kd.R_alloc | apply Kd.R_drewN | apply Kd.R_drew)); exact HO312.out) (Kd.R_base ho0) hb); have n1_ := Aside0.mk (Kd.R_below (by (with_reducible repeat (first | apply Kd.R_alloc | apply Kd.R_drewN | apply Kd.R_drew)); exact HO315.out) hb); have n2_ := Aside0.mk (Kd.R_lower (Kd.R_new' ho0 (Kd.R_lt (by (with_reducible repeat (first | apply Kd.R_alloc | apply Kd.R_drewN | apply Kd.R_drew)); exact HO312.out))) (below_size (by repeat (first | (with_reducible first | exact HB.out | apply below_alloc | apply pw_below_drewN | apply below_drew1) | exact HB.out)))); have n3_ := Aside0.mk (below_step (by repeat (first | (with_reducible first | exact HB.out | apply below_alloc | apply pw_below_drewN | apply below_drew1) | exact HB.out)) hb); clear HO312; clear HO315; clear HB; have HO312 := n0_; have HO315 := n1_; have HO318 := n2_; have HB := n3_; clear n0_ n1_ n2_ n3_; (try clear hb); (try clear hb2); (try clear hk); (try clear hi); (try clear ho0))))
         go_loopg [8, 10] k (fun kq v8 v10 w' => ∃ (x6_1 : List Int) (x7_1 : List Bool) (x8_1 : Int) (x10_1 : Int), v8 = .int .i64 x8_1 ∧ v10 = .int .i64 x10_1 ∧ Aside0 (kimberliteref01_Trays.l0 kq l0 x6_1 x7_1 x8_1 t316 x10_1 = some (r1, r2, r3)) ∧ Aside0 (kq ≤ k) ∧ Aside0 (Kd.R (Kd.int .i64) 3 w' w.heap.size (fun k_ => some k_ ≠ (v317 : Value).ownBlock) v311 x6_1) ∧ Aside0 (Kd.R Kd.bool 4 w' w.heap.size (fun _ => True) v314 x7_1) ∧ Aside0 (Kd.R (Kd.int .i64) 3 w' w.heap.size (fun k_ => some k_ ≠ (v311 : Value).ownBlock) v317 t316) ∧ Aside0 (Below w.heap.size w w'))
         case atStart => exact ⟨(y310), (y313), (0), (0), (by first | rfl | (simp; done) | (simp [*]; done)), (by first | rfl | (simp; done) | (simp [*]; done)), H', ⟨Nat.le_refl _⟩, ⟨by (with_reducible repeat (first | apply Kd.R_alloc | apply Kd.R_drewN | apply Kd.R_drew)); exact Kd.R_mono HO312.out (fun _ hk => hk.2)⟩, ⟨by (with_reducible repeat (first | apply Kd.R_alloc | apply Kd.R_drewN | apply Kd.R_drew)); exact HO315.out⟩, ⟨by (with_reducible repeat (first | apply Kd.R_alloc | apply Kd.R_drewN | apply Kd.R_drew)); exact Kd.R_mono HO318.out (fun _ hk => hk.2)⟩, ⟨by repeat (first | (with_reducible first | exact HB.out | apply below_alloc | apply pw_below_drewN | apply below_drew1) | exact HB.out)⟩⟩
         case round =>
          clear H'
          try clear p2
          try clear c3
          try clear c3b0
          try clear c3b1
          try clear c4
          try clear c4b0
          try clear c4b1
          try clear c5
          try clear c5b0
          try clear c5b1
          try clear c6
          try clear c6b0
          try clear c6b1
          obtain ⟨x6_1, x7_1, x8_1, x10_1, rfl, rfl, HA, HK1, HO_6, HO_7, HO_9, HB⟩ := hrel
          cases gk with
          | zero => exact absurd HA.out (by simp [kimberliteref01_Trays.l0])
          | succ k1 =>
           have H := HA.out
           clear HA
           simp only [kimberliteref01_Trays.l0] at H
           by_cases c14 : x10_1 < (t316.length : Int)
           · rw [if_pos c14] at H
             have c14b0 : decide (x10_1 < (t316.length : Int)) = true := decide_eq_true c14
             clear c14
             by_cases c15 : 0 ≤ x10_1
             · rw [if_pos c15] at H
               have c15b0 : decide (0 ≤ x10_1) = true := decide_eq_true c15
               clear c15
               by_cases c16 : 0 ≤ (rd t316 x10_1)
               · rw [if_pos c16] at H
                 have c16b0 : decide (0 ≤ (rd t316 x10_1)) = true := decide_eq_true c16
                 clear c16
                 by_cases c17 : (rd t316 x10_1) < (l0.length : Int)
                 · rw [if_pos c17] at H
                   have c17b0 : decide ((rd t316 x10_1) < (l0.length : Int)) = true := decide_eq_true c17
                   clear c17
                   have H' := Aside0.mk H
                   clear H
                   obtain ⟨Ao18, co18, eo18⟩ := Kd.R_slice HO_9.out
                   subst eo18
                   have p319 : 0 ≤ (x10_1 : Int) := of_decide_eq_true (by first | (with_reducible assumption) | assumption)
                   have q319 : x10_1 < (t316.length : Int) := of_decide_eq_true (by first | (with_reducible assumption) | assumption)
                   obtain ⟨ad319, e319, hx319_0⟩ := Kd.at_int (Kd.R_reads' HO_9.out).2.2 x10_1 p319 q319
                   cases e319
                   replace p319 := eq_true p319
                   replace q319 := eq_true q319
                   have p320 : 0 ≤ ((rd t316 x10_1) : Int) := of_decide_eq_true (by first | (with_reducible assumption) | assumption)
                   have q320 : (rd t316 x10_1) < (l0.length : Int) := of_decide_eq_true (by first | (with_reducible assumption) | assumption)
                   obtain ⟨ad320, e320, hx320_0, hx320_1⟩ := at_T32 HR0.out (rd t316 x10_1) p320 q320
                   cases e320
                   replace hx320_0 := (HB.out.cell (World.block_lt_of_cell? w _ hx320_0)).trans hx320_0
                   replace hx320_1 := (HB.out.cell (World.block_lt_of_cell? w _ hx320_1)).trans hx320_1
                   replace p320 := eq_true p320
                   replace q320 := eq_true q320
                   go_wp2_with (first | ((with_reducible refine gate_dst (N := 11) rfl ?_); refine box_event ?hg (N := 11) ?hd (cs := #[.int .i64 0, .int .i64 0]) (t := 32) ?hr ?_; (case hd => rfl); (case hg => rfl); (case hr => first | (go_simp; done) | (go_simp; rfl)); intro gb321 hg w19 hbox hb; have n0_ := Aside0.mk (Kd.R_below (by (with_reducible repeat (first | apply Kd.R_alloc | apply Kd.R_drewN | apply Kd.R_drew)); exact HO_6.out) hb); have n1_ := Aside0.mk (Kd.R_below (by (with_reducible repeat (first | apply Kd.R_alloc | apply Kd.R_drewN | apply Kd.R_drew)); exact HO_7.out) hb); have n2_ := Aside0.mk (Kd.R_below (by (with_reducible repeat (first | apply Kd.R_alloc | apply Kd.R_drewN | apply Kd.R_drew)); exact HO_9.out) hb); have n3_ := Aside0.mk (below_step (by repeat (first | (with_reducible first | exact HB.out | apply below_alloc | apply pw_below_drewN | apply below_drew1) | exact HB.out)) hb); have n4_ := Aside0.mk (hbox); have n5_ := Aside0.mk ((by rw [hg]; exact (below_size (by repeat (first | (with_reducible first | exact HB.out | apply below_alloc | apply pw_below_drewN | apply below_drew1) | exact HB.out))) : w.heap.size ≤ gb321)); have n6_ := Aside0.mk ((by rw [hg]; exact (below_size (by repeat (first | (with_reducible first | exact HB.out | apply below_alloc | apply pw_below_drewN | apply below_drew1) | exact HB.out))) : w.heap.size ≤ gb321)); clear HO_6; clear HO_7; clear HO_9; clear HB; have HO_6 := n0_; have HO_7 := n1_; have HO_9 := n2_; have HB := n3_; have BK321 := n4_; have GW321 := n5_; have GE321 := n6_; clear n0_ n1_ n2_ n3_ n4_ n5_ n6_; clear hb hbox hg; have hcz20_0 : w19.cell? ⟨gb321, 0, none⟩ = some (.int .i64 0) := (blk_cell BK321.out 0).trans rfl; have hcz20_1 : w19.cell? ⟨gb321, 1, none⟩ = some (.int .i64 0) := (blk_cell BK321.out 1).trans rfl; have hfz20_0 := blk_frozen BK321.out 0; have hfz20_1 := blk_frozen BK321.out 1))
                   repeat (go_quiet (fail); try go_wp2_with (first | ((with_reducible refine gate_dst (N := 11) rfl ?_); refine box_event ?hg (N := 11) ?hd (cs := #[.int .i64 0, .int .i64 0]) (t := 32) ?hr ?_; (case hd => rfl); (case hg => rfl); (case hr => first | (go_simp; done) | (go_simp; rfl)); intro gb321 hg w19 hbox hb; have n0_ := Aside0.mk (Kd.R_below (by (with_reducible repeat (first | apply Kd.R_alloc | apply Kd.R_drewN | apply Kd.R_drew)); exact HO_6.out) hb); have n1_ := Aside0.mk (Kd.R_below (by (with_reducible repeat (first | apply Kd.R_alloc | apply Kd.R_drewN | apply Kd.R_drew)); exact HO_7.out) hb); have n2_ := Aside0.mk (Kd.R_below (by (with_reducible repeat (first | apply Kd.R_alloc | apply Kd.R_drewN | apply Kd.R_drew)); exact HO_9.out) hb); have n3_ := Aside0.mk (below_step (by repeat (first | (with_reducible first | exact HB.out | apply below_alloc | apply pw_below_drewN | apply below_drew1) | exact HB.out)) hb); have n4_ := Aside0.mk (hbox); have n5_ := Aside0.mk ((by rw [hg]; exact (below_size (by repeat (first | (with_reducible first | exact HB.out | apply below_alloc | apply pw_below_drewN | apply below_drew1) | exact HB.out))) : w.heap.size ≤ gb321)); have n6_ := Aside0.mk ((by rw [hg]; exact (below_size (by repeat (first | (with_reducible first | exact HB.out | apply below_alloc | apply pw_below_drewN | apply below_drew1) | exact HB.out))) : w.heap.size ≤ gb321)); clear HO_6; clear HO_7; clear HO_9; clear HB; have HO_6 := n0_; have HO_7 := n1_; have HO_9 := n2_; have HB := n3_; have BK321 := n4_; have GW321 := n5_; have GE321 := n6_; clear n0_ n1_ n2_ n3_ n4_ n5_ n6_; clear hb hbox hg; have hcz20_0 : w19.cell? ⟨gb321, 0, none⟩ = some (.int .i64 0) := (blk_cell BK321.out 0).trans rfl; have hcz20_1 : w19.cell? ⟨gb321, 1, none⟩ = some (.int .i64 0) := (blk_cell BK321.out 1).trans rfl; have hfz20_0 := blk_frozen BK321.out 0; have hfz20_1 := blk_frozen BK321.out 1)))
                   go_loopg [12, 13] k1 (fun kq v12 v13 w' => ∃ (x12_2 : Int) (x13_2 : Bool), v12 = .int .i64 x12_2 ∧ v13 = .bool x13_2 ∧ Aside0 (kimberliteref01_Trays.l1 kq l0 x6_1 x7_1 x8_1 t316 x10_1 x12_2 x13_2 ((rd_T32 l0 (rd t316 x10_1)).f0) ((rd_T32 l0 (rd t316 x10_1)).f1) = some (r1, r2, r3)) ∧ Aside0 (kq ≤ k1) ∧ Aside0 (Kd.R (Kd.int .i64) 3 w' w.heap.size (fun k_ => some k_ ≠ ((.slice (some ad319) t316.length co18) : Value).ownBlock) v311 x6_1) ∧ Aside0 (Kd.R Kd.bool 4 w' w.heap.size (fun _ => True) v314 x7_1) ∧ Aside0 (Kd.R (Kd.int .i64) 3 w' w.heap.size (fun k_ => some k_ ≠ (v311 : Value).ownBlock) (.slice (some ad319) t316.length co18) t316) ∧ Aside0 (w'.heap[gb321]? = some (.cells #[.int .i64 ((rd_T32 l0 (rd t316 x10_1)).f0), .int .i64 ((rd_T32 l0 (rd t316 x10_1)).f1)] 32 (0, 0))) ∧ Aside0 (Below w.heap.size w w'))
                   case atStart => exact ⟨(0), (false), (by first | rfl | (simp; done) | (simp [*]; done)), (by first | rfl | (simp; done) | (simp [*]; done)), H', ⟨Nat.le_refl _⟩, ⟨by (with_reducible repeat (first | apply Kd.R_alloc | apply Kd.R_drewN | apply Kd.R_drew)); exact Kd.R_mono (Kd.R_far (p := ⟨gb321, 1, none⟩) (Kd.R_far (p := ⟨gb321, 0, none⟩) (Kd.R_types HO_6.out BK321.out (by decide)) (fun _ hk => hk.2) (.int .i64 ((rd_T32 l0 (rd t316 x10_1)).f0))) (fun _ hk => hk.2) (.int .i64 ((rd_T32 l0 (rd t316 x10_1)).f1))) (fun _ hk => hk.1)⟩, ⟨by (with_reducible repeat (first | apply Kd.R_alloc | apply Kd.R_drewN | apply Kd.R_drew)); exact Kd.R_mono (Kd.R_far (p := ⟨gb321, 1, none⟩) (Kd.R_far (p := ⟨gb321, 0, none⟩) (Kd.R_types HO_7.out BK321.out (by decide)) (fun _ hk => hk.2) (.int .i64 ((rd_T32 l0 (rd t316 x10_1)).f0))) (fun _ hk => hk.2) (.int .i64 ((rd_T32 l0 (rd t316 x10_1)).f1))) (fun _ hk => trivial)⟩, ⟨by (with_reducible repeat (first | apply Kd.R_alloc | apply Kd.R_drewN | apply Kd.R_drew)); exact Kd.R_mono (Kd.R_far (p := ⟨gb321, 1, none⟩) (Kd.R_far (p := ⟨gb321, 0, none⟩) (Kd.R_types HO_9.out BK321.out (by decide)) (fun _ hk => hk.2) (.int .i64 ((rd_T32 l0 (rd t316 x10_1)).f0))) (fun _ hk => hk.2) (.int .i64 ((rd_T32 l0 (rd t316 x10_1)).f1))) (fun _ hk => hk.1)⟩, ⟨by (with_reducible repeat (first | refine blk_drewN ?_ _ | refine blk_drew ?_ | refine blk_alloc ?_ _)); refine blk_put (cs := #[.int .i64 ((rd_T32 l0 (rd t316 x10_1)).f0), .int .i64 0]) ?_ 1 _ rfl; (with_reducible repeat (first | refine blk_drewN ?_ _ | refine blk_drew ?_ | refine blk_alloc ?_ _)); refine blk_put (cs := #[.int .i64 0, .int .i64 0]) ?_ 0 _ rfl; (with_reducible repeat (first | refine blk_drewN ?_ _ | refine blk_drew ?_ | refine blk_alloc ?_ _)); exact BK321.out⟩, ⟨by repeat (first | (with_reducible first | exact HB.out | apply below_alloc | apply pw_below_drewN | apply below_drew1 | refine below_set ?_ GE321.out) | exact HB.out)⟩⟩
                   case round =>
                    clear H'
                    try clear c1
                    try clear p2
                    try clear c3
                    try clear c3b0
                    try clear c3b1
                    try clear p3
                    try clear q3
                    try clear hx3
                    try clear c4
                    try clear c4b0
                    try clear c4b1
                    try clear c5
                    try clear c5b0
                    try clear c5b1
                    try clear c6
                    try clear c6b0
                    try clear c6b1
                    try clear c14
                    try clear c14b0
                    try clear c15
                    try clear c15b0
                    try clear c16
                    try clear c16b0
                    try clear c17
                    try clear c17b0
                    try clear hcz20_0
                    try clear hcz20_1
                    try clear hfz20_0
                    try clear hfz20_1
                    try clear hx319_0
                    try clear hx320_0
                    try clear hx320_1
                    try clear p2
                    try clear p319
                    try clear p320
                    try clear q319
                    try clear q320
                    obtain ⟨x12_2, x13_2, rfl, rfl, HA, HK2, HO_6, HO_7, HO_9, BK321, HB⟩ := hrel
                    cases gk with
                    | zero => exact absurd HA.out (by simp [kimberliteref01_Trays.l1])
                    | succ k2 =>
                     have H := HA.out
                     clear HA
                     simp only [kimberliteref01_Trays.l1] at H
                     by_cases c21 : x13_2 = true
                     · subst c21
                       have H1 : (if 0 ≤ x10_1 then (if x10_1 < (t316.length : Int) then (if 0 ≤ (rd t316 x10_1) then (if (rd t316 x10_1) < (x6_1.length : Int) then (if (rd t316 x10_1) < (x7_1.length : Int) then (kimberliteref01_Trays.l0 k2 l0 (x6_1.set ((rd t316 x10_1) : Int).toNat x12_2) (x7_1.set ((rd t316 x10_1) : Int).toNat true) (mx x8_1 (wrap64 (x12_2 + 1))) t316 (wrap64 (x10_1 + 1))) else (none)) else (none)) else (none)) else (none)) else (none)) = some (r1, r2, r3) := by rw [if_pos rfl] at H; exact H
                       clear H
                       have H := H1
                       clear H1
                       by_cases c22 : 0 ≤ x10_1
                       · rw [if_pos c22] at H
                         have c22b0 : decide (0 ≤ x10_1) = true := decide_eq_true c22
                         clear c22
                         by_cases c23 : x10_1 < (t316.length : Int)
                         · rw [if_pos c23] at H
                           have c23b0 : decide (x10_1 < (t316.length : Int)) = true := decide_eq_true c23
                           clear c23
                           by_cases c24 : 0 ≤ (rd t316 x10_1)
                           · rw [if_pos c24] at H
                             have c24b0 : decide (0 ≤ (rd t316 x10_1)) = true := decide_eq_true c24
                             clear c24
                             by_cases c25 : (rd t316 x10_1) < (x6_1.length : Int)
                             · rw [if_pos c25] at H
                               have c25b0 : decide ((rd t316 x10_1) < (x6_1.length : Int)) = true := decide_eq_true c25
                               clear c25
                               obtain ⟨y323, hy323⟩ : ∃ y_ : List Int, y_ = (x6_1.set ((rd t316 x10_1) : Int).toNat x12_2) := ⟨_, rfl⟩
                               replace H : (if (rd t316 x10_1) < (x7_1.length : Int) then (kimberliteref01_Trays.l0 k2 l0 y323 (x7_1.set ((rd t316 x10_1) : Int).toNat true) (mx x8_1 (wrap64 (x12_2 + 1))) t316 (wrap64 (x10_1 + 1))) else (none)) = some (r1, r2, r3) := by first | (rw [hy323]; with_reducible exact H) | (have H2_ := (Option.bind_some _ _).symm.trans H; rw [hy323]; with_reducible exact H2_) | (have H2_ := (Option.bind_some _ _).symm.trans H; with_reducible exact H2_) | with_reducible exact H | (rw [hy323]; exact H) | exact H
                               have Ny323 := Aside0.mk hy323
                               clear hy323
                               by_cases c27 : (rd t316 x10_1) < (x7_1.length : Int)
                               · rw [if_pos c27] at H
                                 have c27b0 : decide ((rd t316 x10_1) < (x7_1.length : Int)) = true := decide_eq_true c27
                                 clear c27
                                 obtain ⟨y325, hy325⟩ : ∃ y_ : List Bool, y_ = (x7_1.set ((rd t316 x10_1) : Int).toNat true) := ⟨_, rfl⟩
                                 replace H : (kimberliteref01_Trays.l0 k2 l0 y323 y325 (mx x8_1 (wrap64 (x12_2 + 1))) t316 (wrap64 (x10_1 + 1))) = some (r1, r2, r3) := by first | (rw [hy325]; with_reducible exact H) | (have H2_ := (Option.bind_some _ _).symm.trans H; rw [hy325]; with_reducible exact H2_) | (have H2_ := (Option.bind_some _ _).symm.trans H; with_reducible exact H2_) | with_reducible exact H | (rw [hy325]; exact H) | exact H
                                 have Ny325 := Aside0.mk hy325
                                 clear hy325
                                 obtain ⟨ji29, hji29⟩ : ∃ j_ : Int, (mx x8_1 (wrap64 (x12_2 + 1))) = j_ := ⟨_, rfl⟩
                                 replace H : (kimberliteref01_Trays.l0 k2 l0 y323 y325 ji29 t316 (wrap64 (x10_1 + 1))) = some (r1, r2, r3) := by first | (rw [hji29] at H; exact H) | (simp only [hji29] at H ⊢; exact H)
                                 have hji29_ : (if x8_1 < (wrap64 (x12_2 + 1)) then (wrap64 (x12_2 + 1)) else x8_1) = ji29 := hji29
                                 have H' := Aside0.mk H
                                 clear H
                                 have p322 : 0 ≤ (x10_1 : Int) := of_decide_eq_true (by first | (with_reducible assumption) | assumption)
                                 have q322 : x10_1 < (t316.length : Int) := of_decide_eq_true (by first | (with_reducible assumption) | assumption)
                                 obtain ⟨ad322, e322, hx322_0⟩ := Kd.at_int (Kd.R_reads' HO_9.out).2.2 x10_1 p322 q322
                                 obtain rfl : ad319 = ad322 := (by injection e322)
                                 replace p322 := eq_true p322
                                 replace q322 := eq_true q322
                                 have p26 : 0 ≤ ((rd t316 x10_1) : Int) := of_decide_eq_true (by first | (with_reducible assumption) | assumption)
                                 have q26 : ((rd t316 x10_1) : Int) < ((x6_1.length : Int) : Int) := of_decide_eq_true (by first | (with_reducible assumption) | assumption)
                                 obtain ⟨go26, co26, eo26, gb26, gl26, cl26, HG26⟩ := Kd.R_form HO_6.out (by omega)
                                 (first | cases eo26 | (injection eo26 with ea_ en_ ec_; (first | subst ea_ | (injection ea_ with ea_; subst ea_)); subst ec_; clear en_))
                                 have GB26 := Aside0.mk gb26
                                 have GG26 := Aside0.mk HG26
                                 clear gb26 gl26 HG26
                                 obtain ⟨hx26_0, hf26_0⟩ := Kd.R_celln 0 HO_6.out ((rd t316 x10_1) : Int) p26 q26
                                 replace p26 := eq_true p26
                                 replace q26 := eq_true q26
                                 have HP30 := Kd.R_putg HO_6.out ((rd t316 x10_1) : Int) x12_2
                                 go_wp2_with (first | ((with_reducible refine gate_store (t := 3) (p := 91) rfl ?_); (try (rw [drewN_self wr]; generalize hq_ : World.drewN wr _ = wr; have n0_ := Aside0.mk (Kd.R_at hq_ HO_6.out); have n1_ := Aside0.mk (Kd.R_at hq_ HO_7.out); have n2_ := Aside0.mk (Kd.R_at hq_ HO_9.out); have n3_ := Aside0.mk (blk_at hq_ BK321.out); have n4_ := Aside0.mk (below_at hq_ HB.out); clear hq_ HO_6 HO_7 HO_9 BK321 HB; have HO_6 := n0_; have HO_7 := n1_; have HO_9 := n2_; have BK321 := n3_; have HB := n4_; clear n0_ n1_ n2_ n3_ n4_; (try (have HP30 := Kd.R_putg HO_6.out ((rd t316 x10_1) : Int) x12_2)))); refine store_event (t := 3) (p := 91) (v := ?vo_w31) (w1 := (wr.setCell ⟨go26, ((rd t316 x10_1) : Int).toNat, none⟩ (.int .i64 x12_2))) ?hg ?ho ?hn ?hr ?_; (case ho => rfl); (case hg => rfl); (case hn => rfl); (case hr => first | (go_simp; done) | (go_simp; rfl)); intro w31 hw; have hg : wr.grownBy w31 (some go26) := (by rw [hw]; exact HP30.2); have hp_ : Kd.R (Kd.int .i64) 3 w31 w.heap.size (fun k_ => some k_ ≠ (.slice (some ad319) t316.length co18 : Value).ownBlock) (.slice (some ⟨go26, 0, none⟩) x6_1.length co26) y323 := (by rw [hw, Ny323.out]; exact HP30.1); clear HP30; have n0_ := Aside0.mk (hp_); have n1_ := Aside0.mk (Kd.R_over' (v := (.slice (some ⟨go26, 0, none⟩) x6_1.length co26)) (by (with_reducible repeat (first | apply Kd.R_alloc | apply Kd.R_drewN | apply Kd.R_drew)); exact HO_7.out) (Kd.R_typed HO_6.out) (by decide) hg); have n2_ := Aside0.mk (Kd.R_after (v := (.slice (some ⟨go26, 0, none⟩) x6_1.length co26)) (v1 := (.slice (some ⟨go26, 0, none⟩) x6_1.length co26)) (ok := (fun _ => True)) (by (with_reducible repeat (first | apply Kd.R_alloc | apply Kd.R_drewN | apply Kd.R_drew)); exact Kd.R_mono HO_9.out (fun _ hk => ⟨trivial, hk⟩)) hg (.inl rfl)); have n3_ := Aside0.mk (blk_grown (g := gb321) (o := .cells #[.int .i64 ((rd_T32 l0 (rd t316 x10_1)).f0), .int .i64 ((rd_T32 l0 (rd t316 x10_1)).f1)] 32 (0, 0)) (by (with_reducible repeat (first | refine blk_drewN ?_ _ | refine blk_drew ?_ | refine blk_alloc ?_ _)); exact BK321.out) hg (Kd.R_ne HO_6.out BK321.out (by decide))); have n4_ := Aside0.mk ((by rw [hw]; exact below_set (HB.out) GB26.out : Below w.heap.size w w31)); clear HO_6; clear HO_7; clear HO_9; clear BK321; clear HB; have HO_6 := n0_; have HO_7 := n1_; have HO_9 := n2_; have BK321 := n3_; have HB := n4_; clear n0_ n1_ n2_ n3_ n4_; clear hg hw hp_; have p324 : 0 ≤ (x10_1 : Int) := of_decide_eq_true (by first | (with_reducible assumption) | assumption); have q324 : x10_1 < (t316.length : Int) := of_decide_eq_true (by first | (with_reducible assumption) | assumption); obtain ⟨ad324, e324, hx324_0⟩ := Kd.at_int (Kd.R_reads' HO_9.out).2.2 x10_1 p324 q324; obtain rfl : ad319 = ad324 := (by injection e324); replace p324 := eq_true p324; replace q324 := eq_true q324; have p28 : 0 ≤ ((rd t316 x10_1) : Int) := of_decide_eq_true (by first | (with_reducible assumption) | assumption); have q28 : ((rd t316 x10_1) : Int) < ((x7_1.length : Int) : Int) := of_decide_eq_true (by first | (with_reducible assumption) | assumption); obtain ⟨go28, co28, eo28, gb28, gl28, cl28, HG28⟩ := Kd.R_form HO_7.out (by omega); (first | cases eo28 | (injection eo28 with ea_ en_ ec_; (first | subst ea_ | (injection ea_ with ea_; subst ea_)); subst ec_; clear en_)); have GB28 := Aside0.mk gb28; have GG28 := Aside0.mk HG28; clear gb28 gl28 HG28; obtain ⟨hx28_0, hf28_0⟩ := Kd.R_celln false HO_7.out ((rd t316 x10_1) : Int) p28 q28; replace p28 := eq_true p28; replace q28 := eq_true q28; obtain ⟨hy32_, hz32_⟩ := Kd.R_celln false HO_7.out ((rd t316 x10_1) : Int) (of_decide_eq_true (by first | (with_reducible assumption) | assumption)) (of_decide_eq_true (by first | (with_reducible assumption) | assumption)); have HP32 := Kd.R_putg HO_7.out ((rd t316 x10_1) : Int) true) | ((with_reducible refine gate_store (t := 4) (p := 97) rfl ?_); (try (rw [drewN_self w31]; generalize hq_ : World.drewN w31 _ = w31; have n0_ := Aside0.mk (Kd.R_at hq_ HO_6.out); have n1_ := Aside0.mk (Kd.R_at hq_ HO_7.out); have n2_ := Aside0.mk (Kd.R_at hq_ HO_9.out); have n3_ := Aside0.mk (blk_at hq_ BK321.out); have n4_ := Aside0.mk (below_at hq_ HB.out); clear hq_ HO_6 HO_7 HO_9 BK321 HB; have HO_6 := n0_; have HO_7 := n1_; have HO_9 := n2_; have BK321 := n3_; have HB := n4_; clear n0_ n1_ n2_ n3_ n4_; (try (obtain ⟨hy32_, hz32_⟩ := Kd.R_celln false HO_7.out ((rd t316 x10_1) : Int) (of_decide_eq_true (by first | (with_reducible assumption) | assumption)) (of_decide_eq_true (by first | (with_reducible assumption) | assumption)))); (try (have HP32 := Kd.R_putg HO_7.out ((rd t316 x10_1) : Int) true)))); refine store_event (t := 4) (p := 97) (v := ?vo_w33) (w1 := (w31.setCell ⟨go28, ((rd t316 x10_1) : Int).toNat, none⟩ (.bool true))) ?hg ?ho ?hn ?hr ?_; (case ho => rfl); (case hg => rfl); (case hn => rfl); (case hr => first | (go_simp; done) | (go_simp; rfl)); intro w33 hw; have hg : w31.grownBy w33 (some go28) := (by rw [hw]; exact HP32.2); have hp_ : Kd.R Kd.bool 4 w33 w.heap.size (fun _ => True) (.slice (some ⟨go28, 0, none⟩) x7_1.length co28) y325 := (by rw [hw, Ny325.out]; exact HP32.1); clear HP32; have n0_ := Aside0.mk (Kd.R_over' (v := (.slice (some ⟨go28, 0, none⟩) x7_1.length co28)) (by (with_reducible repeat (first | apply Kd.R_alloc | apply Kd.R_drewN | apply Kd.R_drew)); exact HO_6.out) (Kd.R_typed HO_7.out) (by decide) hg); have n1_ := Aside0.mk (hp_); have n2_ := Aside0.mk (Kd.R_over' (v := (.slice (some ⟨go28, 0, none⟩) x7_1.length co28)) (by (with_reducible repeat (first | apply Kd.R_alloc | apply Kd.R_drewN | apply Kd.R_drew)); exact HO_9.out) (Kd.R_typed HO_7.out) (by decide) hg); have n3_ := Aside0.mk (blk_grown (g := gb321) (o := .cells #[.int .i64 ((rd_T32 l0 (rd t316 x10_1)).f0), .int .i64 ((rd_T32 l0 (rd t316 x10_1)).f1)] 32 (0, 0)) (by (with_reducible repeat (first | refine blk_drewN ?_ _ | refine blk_drew ?_ | refine blk_alloc ?_ _)); exact BK321.out) hg (Kd.R_ne HO_7.out BK321.out (by decide))); have n4_ := Aside0.mk ((by rw [hw]; exact below_set (HB.out) GB28.out : Below w.heap.size w w33)); clear HO_6; clear HO_7; clear HO_9; clear BK321; clear HB; have HO_6 := n0_; have HO_7 := n1_; have HO_9 := n2_; have BK321 := n3_; have HB := n4_; clear n0_ n1_ n2_ n3_ n4_; clear hg hw hp_))
                                 repeat (go_quiet (fail); try go_wp2_with (first | ((with_reducible refine gate_store (t := 3) (p := 91) rfl ?_); (try (rw [drewN_self wr]; generalize hq_ : World.drewN wr _ = wr; have n0_ := Aside0.mk (Kd.R_at hq_ HO_6.out); have n1_ := Aside0.mk (Kd.R_at hq_ HO_7.out); have n2_ := Aside0.mk (Kd.R_at hq_ HO_9.out); have n3_ := Aside0.mk (blk_at hq_ BK321.out); have n4_ := Aside0.mk (below_at hq_ HB.out); clear hq_ HO_6 HO_7 HO_9 BK321 HB; have HO_6 := n0_; have HO_7 := n1_; have HO_9 := n2_; have BK321 := n3_; have HB := n4_; clear n0_ n1_ n2_ n3_ n4_; (try (have HP30 := Kd.R_putg HO_6.out ((rd t316 x10_1) : Int) x12_2)))); refine store_event (t := 3) (p := 91) (v := ?vo_w31) (w1 := (wr.setCell ⟨go26, ((rd t316 x10_1) : Int).toNat, none⟩ (.int .i64 x12_2))) ?hg ?ho ?hn ?hr ?_; (case ho => rfl); (case hg => rfl); (case hn => rfl); (case hr => first | (go_simp; done) | (go_simp; rfl)); intro w31 hw; have hg : wr.grownBy w31 (some go26) := (by rw [hw]; exact HP30.2); have hp_ : Kd.R (Kd.int .i64) 3 w31 w.heap.size (fun k_ => some k_ ≠ (.slice (some ad319) t316.length co18 : Value).ownBlock) (.slice (some ⟨go26, 0, none⟩) x6_1.length co26) y323 := (by rw [hw, Ny323.out]; exact HP30.1); clear HP30; have n0_ := Aside0.mk (hp_); have n1_ := Aside0.mk (Kd.R_over' (v := (.slice (some ⟨go26, 0, none⟩) x6_1.length co26)) (by (with_reducible repeat (first | apply Kd.R_alloc | apply Kd.R_drewN | apply Kd.R_drew)); exact HO_7.out) (Kd.R_typed HO_6.out) (by decide) hg); have n2_ := Aside0.mk (Kd.R_after (v := (.slice (some ⟨go26, 0, none⟩) x6_1.length co26)) (v1 := (.slice (some ⟨go26, 0, none⟩) x6_1.length co26)) (ok := (fun _ => True)) (by (with_reducible repeat (first | apply Kd.R_alloc | apply Kd.R_drewN | apply Kd.R_drew)); exact Kd.R_mono HO_9.out (fun _ hk => ⟨trivial, hk⟩)) hg (.inl rfl)); have n3_ := Aside0.mk (blk_grown (g := gb321) (o := .cells #[.int .i64 ((rd_T32 l0 (rd t316 x10_1)).f0), .int .i64 ((rd_T32 l0 (rd t316 x10_1)).f1)] 32 (0, 0)) (by (with_reducible repeat (first | refine blk_drewN ?_ _ | refine blk_drew ?_ | refine blk_alloc ?_ _)); exact BK321.out) hg (Kd.R_ne HO_6.out BK321.out (by decide))); have n4_ := Aside0.mk ((by rw [hw]; exact below_set (HB.out) GB26.out : Below w.heap.size w w31)); clear HO_6; clear HO_7; clear HO_9; clear BK321; clear HB; have HO_6 := n0_; have HO_7 := n1_; have HO_9 := n2_; have BK321 := n3_; have HB := n4_; clear n0_ n1_ n2_ n3_ n4_; clear hg hw hp_; have p324 : 0 ≤ (x10_1 : Int) := of_decide_eq_true (by first | (with_reducible assumption) | assumption); have q324 : x10_1 < (t316.length : Int) := of_decide_eq_true (by first | (with_reducible assumption) | assumption); obtain ⟨ad324, e324, hx324_0⟩ := Kd.at_int (Kd.R_reads' HO_9.out).2.2 x10_1 p324 q324; obtain rfl : ad319 = ad324 := (by injection e324); replace p324 := eq_true p324; replace q324 := eq_true q324; have p28 : 0 ≤ ((rd t316 x10_1) : Int) := of_decide_eq_true (by first | (with_reducible assumption) | assumption); have q28 : ((rd t316 x10_1) : Int) < ((x7_1.length : Int) : Int) := of_decide_eq_true (by first | (with_reducible assumption) | assumption); obtain ⟨go28, co28, eo28, gb28, gl28, cl28, HG28⟩ := Kd.R_form HO_7.out (by omega); (first | cases eo28 | (injection eo28 with ea_ en_ ec_; (first | subst ea_ | (injection ea_ with ea_; subst ea_)); subst ec_; clear en_)); have GB28 := Aside0.mk gb28; have GG28 := Aside0.mk HG28; clear gb28 gl28 HG28; obtain ⟨hx28_0, hf28_0⟩ := Kd.R_celln false HO_7.out ((rd t316 x10_1) : Int) p28 q28; replace p28 := eq_true p28; replace q28 := eq_true q28; obtain ⟨hy32_, hz32_⟩ := Kd.R_celln false HO_7.out ((rd t316 x10_1) : Int) (of_decide_eq_true (by first | (with_reducible assumption) | assumption)) (of_decide_eq_true (by first | (with_reducible assumption) | assumption)); have HP32 := Kd.R_putg HO_7.out ((rd t316 x10_1) : Int) true) | ((with_reducible refine gate_store (t := 4) (p := 97) rfl ?_); (try (rw [drewN_self w31]; generalize hq_ : World.drewN w31 _ = w31; have n0_ := Aside0.mk (Kd.R_at hq_ HO_6.out); have n1_ := Aside0.mk (Kd.R_at hq_ HO_7.out); have n2_ := Aside0.mk (Kd.R_at hq_ HO_9.out); have n3_ := Aside0.mk (blk_at hq_ BK321.out); have n4_ := Aside0.mk (below_at hq_ HB.out); clear hq_ HO_6 HO_7 HO_9 BK321 HB; have HO_6 := n0_; have HO_7 := n1_; have HO_9 := n2_; have BK321 := n3_; have HB := n4_; clear n0_ n1_ n2_ n3_ n4_; (try (obtain ⟨hy32_, hz32_⟩ := Kd.R_celln false HO_7.out ((rd t316 x10_1) : Int) (of_decide_eq_true (by first | (with_reducible assumption) | assumption)) (of_decide_eq_true (by first | (with_reducible assumption) | assumption)))); (try (have HP32 := Kd.R_putg HO_7.out ((rd t316 x10_1) : Int) true)))); refine store_event (t := 4) (p := 97) (v := ?vo_w33) (w1 := (w31.setCell ⟨go28, ((rd t316 x10_1) : Int).toNat, none⟩ (.bool true))) ?hg ?ho ?hn ?hr ?_; (case ho => rfl); (case hg => rfl); (case hn => rfl); (case hr => first | (go_simp; done) | (go_simp; rfl)); intro w33 hw; have hg : w31.grownBy w33 (some go28) := (by rw [hw]; exact HP32.2); have hp_ : Kd.R Kd.bool 4 w33 w.heap.size (fun _ => True) (.slice (some ⟨go28, 0, none⟩) x7_1.length co28) y325 := (by rw [hw, Ny325.out]; exact HP32.1); clear HP32; have n0_ := Aside0.mk (Kd.R_over' (v := (.slice (some ⟨go28, 0, none⟩) x7_1.length co28)) (by (with_reducible repeat (first | apply Kd.R_alloc | apply Kd.R_drewN | apply Kd.R_drew)); exact HO_6.out) (Kd.R_typed HO_7.out) (by decide) hg); have n1_ := Aside0.mk (hp_); have n2_ := Aside0.mk (Kd.R_over' (v := (.slice (some ⟨go28, 0, none⟩) x7_1.length co28)) (by (with_reducible repeat (first | apply Kd.R_alloc | apply Kd.R_drewN | apply Kd.R_drew)); exact HO_9.out) (Kd.R_typed HO_7.out) (by decide) hg); have n3_ := Aside0.mk (blk_grown (g := gb321) (o := .cells #[.int .i64 ((rd_T32 l0 (rd t316 x10_1)).f0), .int .i64 ((rd_T32 l0 (rd t316 x10_1)).f1)] 32 (0, 0)) (by (with_reducible repeat (first | refine blk_drewN ?_ _ | refine blk_drew ?_ | refine blk_alloc ?_ _)); exact BK321.out) hg (Kd.R_ne HO_7.out BK321.out (by decide))); have n4_ := Aside0.mk ((by rw [hw]; exact below_set (HB.out) GB28.out : Below w.heap.size w w33)); clear HO_6; clear HO_7; clear HO_9; clear BK321; clear HB; have HO_6 := n0_; have HO_7 := n1_; have HO_9 := n2_; have BK321 := n3_; have HB := n4_; clear n0_ n1_ n2_ n3_ n4_; clear hg hw hp_)))
                                 go_roundg k2
                                 case measure => have := HK1.out; have := HK2.out; omega
                                 case rel => exact ⟨(y323), (y325), (ji29), (wrap64 (x10_1 + 1)), (by first | rfl | (simp; done) | (simp only [← hji29] <;> (first | rfl | simp)) | (simp [*]; done)), (by first | rfl | (simp; done) | (simp [*]; done)), H', ⟨by have := HK1.out; have := HK2.out; omega⟩, ⟨by (with_reducible repeat (first | apply Kd.R_alloc | apply Kd.R_drewN | apply Kd.R_drew)); exact HO_6.out⟩, ⟨by (with_reducible repeat (first | apply Kd.R_alloc | apply Kd.R_drewN | apply Kd.R_drew)); exact HO_7.out⟩, ⟨by (with_reducible repeat (first | apply Kd.R_alloc | apply Kd.R_drewN | apply Kd.R_drew)); exact Kd.R_mono HO_9.out (fun _ hk => hk.2)⟩, ⟨by repeat (first | (with_reducible first | exact HB.out | apply below_alloc | apply pw_below_drewN | apply below_drew1 | refine below_set ?_ GE321.out) | exact HB.out)⟩⟩
                               · rw [if_neg c27] at H
                                 exact absurd H (by simp)
                             · rw [if_neg c25] at H
                               exact absurd H (by simp)
                           · rw [if_neg c24] at H
                             exact absurd H (by simp)
                         · rw [if_neg c23] at H
                           exact absurd H (by simp)
                       · rw [if_neg c22] at H
                         exact absurd H (by simp)
                     · replace c21 := Bool.eq_false_iff.mpr c21
                       subst c21
                       have H1 : (kimberliteref01_Trays.l2 k2 l0 x6_1 x7_1 x8_1 t316 x10_1 x12_2 true 0 ((rd_T32 l0 (rd t316 x10_1)).f0) ((rd_T32 l0 (rd t316 x10_1)).f1)) = some (r1, r2, r3) := by rw [if_neg (show ¬ (false = true) by decide)] at H; exact H
                       clear H
                       have H := H1
                       clear H1
                       have H' := Aside0.mk H
                       clear H
                       go_wp2
                       repeat (go_quiet (fail); try go_wp2)
                       go_loopg [13, 14] k2 (fun kq v13 v14 w' => ∃ (x13_3 : Bool) (x14_3 : Int), v13 = .bool x13_3 ∧ v14 = .int .i64 x14_3 ∧ Aside0 (kimberliteref01_Trays.l2 kq l0 x6_1 x7_1 x8_1 t316 x10_1 x12_2 x13_3 x14_3 ((rd_T32 l0 (rd t316 x10_1)).f0) ((rd_T32 l0 (rd t316 x10_1)).f1) = some (r1, r2, r3)) ∧ Aside0 (kq ≤ k2) ∧ Aside0 (Kd.R (Kd.int .i64) 3 w' w.heap.size (fun k_ => some k_ ≠ ((.slice (some ad319) t316.length co18) : Value).ownBlock) v311 x6_1) ∧ Aside0 (Kd.R Kd.bool 4 w' w.heap.size (fun _ => True) v314 x7_1) ∧ Aside0 (Kd.R (Kd.int .i64) 3 w' w.heap.size (fun k_ => some k_ ≠ (v311 : Value).ownBlock) (.slice (some ad319) t316.length co18) t316) ∧ Aside0 (w'.heap[gb321]? = some (.cells #[.int .i64 ((rd_T32 l0 (rd t316 x10_1)).f0), .int .i64 ((rd_T32 l0 (rd t316 x10_1)).f1)] 32 (0, 0))) ∧ Aside0 (Below w.heap.size w w'))
                       case atStart => exact ⟨(true), (0), (by first | rfl | (simp; done) | (simp [*]; done)), (by first | rfl | (simp; done) | (simp [*]; done)), H', ⟨Nat.le_refl _⟩, ⟨by (with_reducible repeat (first | apply Kd.R_alloc | apply Kd.R_drewN | apply Kd.R_drew)); exact HO_6.out⟩, ⟨by (with_reducible repeat (first | apply Kd.R_alloc | apply Kd.R_drewN | apply Kd.R_drew)); exact HO_7.out⟩, ⟨by (with_reducible repeat (first | apply Kd.R_alloc | apply Kd.R_drewN | apply Kd.R_drew)); exact HO_9.out⟩, ⟨by (with_reducible repeat (first | refine blk_drewN ?_ _ | refine blk_drew ?_ | refine blk_alloc ?_ _)); exact BK321.out⟩, ⟨by repeat (first | (with_reducible first | exact HB.out | apply below_alloc | apply pw_below_drewN | apply below_drew1 | refine below_set ?_ GE321.out) | exact HB.out)⟩⟩
                       case round =>
                        clear H'
                        try clear c1
                        try clear c2
                        try clear p2
                        try clear q2
                        try clear hx2
                        try clear hf2
                        try clear c3
                        try clear c3b0
                        try clear c3b1
                        try clear p3
                        try clear q3
                        try clear hx3
                        try clear c4
                        try clear c4b0
                        try clear c4b1
                        try clear c5
                        try clear c5b0
                        try clear c5b1
                        try clear c6
                        try clear c6b0
                        try clear c6b1
                        try clear p6
                        try clear c14
                        try clear c14b0
                        try clear c15
                        try clear c15b0
                        try clear c16
                        try clear c16b0
                        try clear c17
                        try clear c17b0
                        try clear c21
                        try clear c22
                        try clear c22b0
                        try clear c23
                        try clear c23b0
                        try clear c24
                        try clear c24b0
                        try clear c25
                        try clear c25b0
                        try clear p26
                        try clear q26
                        try clear hx26
                        try clear hf26
                        try clear c27
                        try clear c27b0
                        try clear p28
                        try clear q28
                        try clear hx28
                        try clear hf28
                        try clear p31
                        try clear q31
                        try clear hx31
                        try clear p32
                        try clear q32
                        try clear hx32
                        try clear hcz20_0
                        try clear hcz20_1
                        try clear hfz20_0
                        try clear hfz20_1
                        try clear hx26_0
                        try clear hx28_0
                        try clear hx319_0
                        try clear hx320_0
                        try clear hx320_1
                        try clear hx322_0
                        try clear hx324_0
                        try clear p2
                        try clear p26
                        try clear p28
                        try clear p3
                        try clear p319
                        try clear p320
                        try clear p322
                        try clear p324
                        try clear q26
                        try clear q28
                        try clear q3
                        try clear q319
                        try clear q320
                        try clear q322
                        try clear q324
                        obtain ⟨x13_3, x14_3, rfl, rfl, HA, HK3, HO_6, HO_7, HO_9, BK321, HB⟩ := hrel
                        cases gk with
                        | zero => exact absurd HA.out (by simp [kimberliteref01_Trays.l2])
                        | succ k3 =>
                         have H := HA.out
                         clear HA
                         simp only [kimberliteref01_Trays.l2] at H
                         by_cases c34 : x14_3 < (l0.length : Int)
                         · rw [if_pos c34] at H
                           have c34b0 : decide (x14_3 < (l0.length : Int)) = true := decide_eq_true c34
                           clear c34
                           have HC35 := Aside0.mk H
                           clear H
                           go_upto_region 19 with (fail)
                           repeat (go_quiet (fail); go_upto_region 19 with (fail))
                           go_cut [80] (fun v80 wc => ∃ (kq : Nat) (x80_34 : Bool), v80 = .bool x80_34 ∧ Aside0 (kimberliteref01_Trays.j3 kq l0 x6_1 x7_1 x8_1 t316 x10_1 x12_2 x13_3 x14_3 x80_34 ((rd_T32 l0 (rd t316 x10_1)).f0) ((rd_T32 l0 (rd t316 x10_1)).f1) = some (r1, r2, r3)) ∧ Aside0 (kq ≤ k3) ∧ Aside0 (Kd.R (Kd.int .i64) 3 wc w.heap.size (fun k_ => some k_ ≠ ((.slice (some ad319) t316.length co18) : Value).ownBlock) v311 x6_1) ∧ Aside0 (Kd.R Kd.bool 4 wc w.heap.size (fun _ => True) v314 x7_1) ∧ Aside0 (Kd.R (Kd.int .i64) 3 wc w.heap.size (fun k_ => some k_ ≠ (v311 : Value).ownBlock) (.slice (some ad319) t316.length co18) t316) ∧ Aside0 (wc.heap[gb321]? = some (.cells #[.int .i64 ((rd_T32 l0 (rd t316 x10_1)).f0), .int .i64 ((rd_T32 l0 (rd t316 x10_1)).f1)] 32 (0, 0))) ∧ Aside0 (Below w.heap.size w wc))
                           case first =>
                            have H := HC35.out
                            clear HC35
                            by_cases c36 : 0 ≤ x14_3
                            · rw [if_pos c36] at H
                              have c36b0 : decide (0 ≤ x14_3) = true := decide_eq_true c36
                              clear c36
                              (first | rw [c36b0] | (simp only [i64_w, i32_w]; rw [c36b0]) | skip)
                              by_cases c37 : x14_3 < (x7_1.length : Int)
                              · rw [if_pos c37] at H
                                have c37b0 : decide (x14_3 < (x7_1.length : Int)) = true := decide_eq_true c37
                                clear c37
                                obtain ⟨bq38, hbq38⟩ : ∃ b_ : Bool, b_ = (rdOf false x7_1 x14_3) := ⟨_, rfl⟩
                                replace H : (if bq38 = true then (if x14_3 < (x6_1.length : Int) then (if (rd x6_1 x14_3) = x12_2 then (if ((rd_T32 l0 x14_3).f0) < ((rd_T32 l0 (rd t316 x10_1)).f1) then (kimberliteref01_Trays.j3 k3 l0 x6_1 x7_1 x8_1 t316 x10_1 x12_2 x13_3 x14_3 (decide (((rd_T32 l0 (rd t316 x10_1)).f0) < ((rd_T32 l0 x14_3).f1))) ((rd_T32 l0 (rd t316 x10_1)).f0) ((rd_T32 l0 (rd t316 x10_1)).f1)) else (kimberliteref01_Trays.j3 k3 l0 x6_1 x7_1 x8_1 t316 x10_1 x12_2 x13_3 x14_3 false ((rd_T32 l0 (rd t316 x10_1)).f0) ((rd_T32 l0 (rd t316 x10_1)).f1))) else (kimberliteref01_Trays.j3 k3 l0 x6_1 x7_1 x8_1 t316 x10_1 x12_2 x13_3 x14_3 false ((rd_T32 l0 (rd t316 x10_1)).f0) ((rd_T32 l0 (rd t316 x10_1)).f1))) else (none)) else (kimberliteref01_Trays.j3 k3 l0 x6_1 x7_1 x8_1 t316 x10_1 x12_2 x13_3 x14_3 false ((rd_T32 l0 (rd t316 x10_1)).f0) ((rd_T32 l0 (rd t316 x10_1)).f1))) = some (r1, r2, r3) := by rw [← hbq38] at H; exact H
                                have Nbq38 := Aside0.mk hbq38
                                clear hbq38
                                by_cases c39 : bq38 = true
                                · subst c39
                                  have H1 : (if x14_3 < (x6_1.length : Int) then (if (rd x6_1 x14_3) = x12_2 then (if ((rd_T32 l0 x14_3).f0) < ((rd_T32 l0 (rd t316 x10_1)).f1) then (kimberliteref01_Trays.j3 k3 l0 x6_1 x7_1 x8_1 t316 x10_1 x12_2 x13_3 x14_3 (decide (((rd_T32 l0 (rd t316 x10_1)).f0) < ((rd_T32 l0 x14_3).f1))) ((rd_T32 l0 (rd t316 x10_1)).f0) ((rd_T32 l0 (rd t316 x10_1)).f1)) else (kimberliteref01_Trays.j3 k3 l0 x6_1 x7_1 x8_1 t316 x10_1 x12_2 x13_3 x14_3 false ((rd_T32 l0 (rd t316 x10_1)).f0) ((rd_T32 l0 (rd t316 x10_1)).f1))) else (kimberliteref01_Trays.j3 k3 l0 x6_1 x7_1 x8_1 t316 x10_1 x12_2 x13_3 x14_3 false ((rd_T32 l0 (rd t316 x10_1)).f0) ((rd_T32 l0 (rd t316 x10_1)).f1))) else (none)) = some (r1, r2, r3) := by rw [if_pos rfl] at H; exact H
                                  clear H
                                  have H := H1
                                  clear H1
                                  by_cases c40 : x14_3 < (x6_1.length : Int)
                                  · rw [if_pos c40] at H
                                    have c40b0 : decide (x14_3 < (x6_1.length : Int)) = true := decide_eq_true c40
                                    clear c40
                                    by_cases c41 : (rd x6_1 x14_3) = x12_2
                                    · rw [if_pos c41] at H
                                      have c41b0 : ((rd x6_1 x14_3) == x12_2) = true := beq_iff_eq.mpr c41
                                      have c41b1 : ((rd x6_1 x14_3) != x12_2) = false := bne_eq_false_iff_eq.mpr c41
                                      clear c41
                                      by_cases c42 : ((rd_T32 l0 x14_3).f0) < ((rd_T32 l0 (rd t316 x10_1)).f1)
                                      · rw [if_pos c42] at H
                                        have c42b0 : decide (((rd_T32 l0 x14_3).f0) < ((rd_T32 l0 (rd t316 x10_1)).f1)) = true := decide_eq_true c42
                                        clear c42
                                        have H' := Aside0.mk H
                                        clear H
                                        obtain ⟨Ao43, co43, eo43⟩ := Kd.R_slice HO_7.out
                                        subst eo43
                                        have p326 : 0 ≤ (x14_3 : Int) := of_decide_eq_true (by first | (with_reducible assumption) | assumption)
                                        have q326 : x14_3 < (x7_1.length : Int) := of_decide_eq_true (by first | (with_reducible assumption) | assumption)
                                        obtain ⟨ad326, e326, hx326_0⟩ := Kd.at_bool (Kd.R_reads' HO_7.out).2.2 x14_3 p326 q326
                                        (try rw [← Nbq38.out] at hx326_0)
                                        cases e326
                                        replace p326 := eq_true p326
                                        replace q326 := eq_true q326
                                        obtain ⟨Ao44, co44, eo44⟩ := Kd.R_slice HO_6.out
                                        subst eo44
                                        have p327 : 0 ≤ (x14_3 : Int) := of_decide_eq_true (by first | (with_reducible assumption) | assumption)
                                        have q327 : x14_3 < (x6_1.length : Int) := of_decide_eq_true (by first | (with_reducible assumption) | assumption)
                                        obtain ⟨ad327, e327, hx327_0⟩ := Kd.at_int (Kd.R_reads' HO_6.out).2.2 x14_3 p327 q327
                                        cases e327
                                        replace p327 := eq_true p327
                                        replace q327 := eq_true q327
                                        have p328 : 0 ≤ (x14_3 : Int) := of_decide_eq_true (by first | (with_reducible assumption) | assumption)
                                        have q328 : x14_3 < (l0.length : Int) := of_decide_eq_true (by first | (with_reducible assumption) | assumption)
                                        obtain ⟨ad328, e328, hx328_0, hx328_1⟩ := at_T32 HR0.out x14_3 p328 q328
                                        obtain rfl : ad320 = ad328 := (by injection e328)
                                        replace hx328_0 := (HB.out.cell (World.block_lt_of_cell? w _ hx328_0)).trans hx328_0
                                        replace hx328_1 := (HB.out.cell (World.block_lt_of_cell? w _ hx328_1)).trans hx328_1
                                        replace p328 := eq_true p328
                                        replace q328 := eq_true q328
                                        have hcz45_0 : wr.cell? ⟨gb321, 0, none⟩ = some (.int .i64 ((rd_T32 l0 (rd t316 x10_1)).f0)) := (blk_cell BK321.out 0).trans rfl
                                        have hcz45_1 : wr.cell? ⟨gb321, 1, none⟩ = some (.int .i64 ((rd_T32 l0 (rd t316 x10_1)).f1)) := (blk_cell BK321.out 1).trans rfl
                                        have hfz45_0 := blk_frozen BK321.out 0
                                        have hfz45_1 := blk_frozen BK321.out 1
                                        have p329 : 0 ≤ (x14_3 : Int) := of_decide_eq_true (by first | (with_reducible assumption) | assumption)
                                        have q329 : x14_3 < (l0.length : Int) := of_decide_eq_true (by first | (with_reducible assumption) | assumption)
                                        obtain ⟨ad329, e329, hx329_0, hx329_1⟩ := at_T32 HR0.out x14_3 p329 q329
                                        obtain rfl : ad320 = ad329 := (by injection e329)
                                        replace hx329_0 := (HB.out.cell (World.block_lt_of_cell? w _ hx329_0)).trans hx329_0
                                        replace hx329_1 := (HB.out.cell (World.block_lt_of_cell? w _ hx329_1)).trans hx329_1
                                        replace p329 := eq_true p329
                                        replace q329 := eq_true q329
                                        go_wp2
                                        repeat (go_quiet (fail); try go_wp2)
                                        go_meet
                                        case rel => exact ⟨_, (decide (((rd_T32 l0 (rd t316 x10_1)).f0) < ((rd_T32 l0 x14_3).f1))), (by first | rfl | (simp; done) | (simp [*]; done)), H', ⟨by have := HK1.out; have := HK2.out; have := HK3.out; first | omega | exact Nat.le_refl _⟩, ⟨by (with_reducible repeat (first | apply Kd.R_alloc | apply Kd.R_drewN | apply Kd.R_drew)); exact HO_6.out⟩, ⟨by (with_reducible repeat (first | apply Kd.R_alloc | apply Kd.R_drewN | apply Kd.R_drew)); exact HO_7.out⟩, ⟨by (with_reducible repeat (first | apply Kd.R_alloc | apply Kd.R_drewN | apply Kd.R_drew)); exact HO_9.out⟩, ⟨by (with_reducible repeat (first | refine blk_drewN ?_ _ | refine blk_drew ?_ | refine blk_alloc ?_ _)); exact BK321.out⟩, ⟨by repeat (first | (with_reducible first | exact HB.out | apply below_alloc | apply pw_below_drewN | apply below_drew1 | refine below_set ?_ GE321.out) | exact HB.out)⟩⟩
                                      · rw [if_neg c42] at H
                                        have c42b0 : decide (((rd_T32 l0 x14_3).f0) < ((rd_T32 l0 (rd t316 x10_1)).f1)) = false := decide_eq_false c42
                                        clear c42
                                        have H' := Aside0.mk H
                                        clear H
                                        obtain ⟨Ao46, co46, eo46⟩ := Kd.R_slice HO_7.out
                                        subst eo46
                                        have p326 : 0 ≤ (x14_3 : Int) := of_decide_eq_true (by first | (with_reducible assumption) | assumption)
                                        have q326 : x14_3 < (x7_1.length : Int) := of_decide_eq_true (by first | (with_reducible assumption) | assumption)
                                        obtain ⟨ad326, e326, hx326_0⟩ := Kd.at_bool (Kd.R_reads' HO_7.out).2.2 x14_3 p326 q326
                                        (try rw [← Nbq38.out] at hx326_0)
                                        cases e326
                                        replace p326 := eq_true p326
                                        replace q326 := eq_true q326
                                        obtain ⟨Ao47, co47, eo47⟩ := Kd.R_slice HO_6.out
                                        subst eo47
                                        have p327 : 0 ≤ (x14_3 : Int) := of_decide_eq_true (by first | (with_reducible assumption) | assumption)
                                        have q327 : x14_3 < (x6_1.length : Int) := of_decide_eq_true (by first | (with_reducible assumption) | assumption)
                                        obtain ⟨ad327, e327, hx327_0⟩ := Kd.at_int (Kd.R_reads' HO_6.out).2.2 x14_3 p327 q327
                                        cases e327
                                        replace p327 := eq_true p327
                                        replace q327 := eq_true q327
                                        have p328 : 0 ≤ (x14_3 : Int) := of_decide_eq_true (by first | (with_reducible assumption) | assumption)
                                        have q328 : x14_3 < (l0.length : Int) := of_decide_eq_true (by first | (with_reducible assumption) | assumption)
                                        obtain ⟨ad328, e328, hx328_0, hx328_1⟩ := at_T32 HR0.out x14_3 p328 q328
                                        obtain rfl : ad320 = ad328 := (by injection e328)
                                        replace hx328_0 := (HB.out.cell (World.block_lt_of_cell? w _ hx328_0)).trans hx328_0
                                        replace hx328_1 := (HB.out.cell (World.block_lt_of_cell? w _ hx328_1)).trans hx328_1
                                        replace p328 := eq_true p328
                                        replace q328 := eq_true q328
                                        have hcz48_0 : wr.cell? ⟨gb321, 0, none⟩ = some (.int .i64 ((rd_T32 l0 (rd t316 x10_1)).f0)) := (blk_cell BK321.out 0).trans rfl
                                        have hcz48_1 : wr.cell? ⟨gb321, 1, none⟩ = some (.int .i64 ((rd_T32 l0 (rd t316 x10_1)).f1)) := (blk_cell BK321.out 1).trans rfl
                                        have hfz48_0 := blk_frozen BK321.out 0
                                        have hfz48_1 := blk_frozen BK321.out 1
                                        go_wp2
                                        repeat (go_quiet (fail); try go_wp2)
                                        go_meet
                                        case rel => exact ⟨_, (false), (by first | rfl | (simp; done) | (simp [*]; done)), H', ⟨by have := HK1.out; have := HK2.out; have := HK3.out; first | omega | exact Nat.le_refl _⟩, ⟨by (with_reducible repeat (first | apply Kd.R_alloc | apply Kd.R_drewN | apply Kd.R_drew)); exact HO_6.out⟩, ⟨by (with_reducible repeat (first | apply Kd.R_alloc | apply Kd.R_drewN | apply Kd.R_drew)); exact HO_7.out⟩, ⟨by (with_reducible repeat (first | apply Kd.R_alloc | apply Kd.R_drewN | apply Kd.R_drew)); exact HO_9.out⟩, ⟨by (with_reducible repeat (first | refine blk_drewN ?_ _ | refine blk_drew ?_ | refine blk_alloc ?_ _)); exact BK321.out⟩, ⟨by repeat (first | (with_reducible first | exact HB.out | apply below_alloc | apply pw_below_drewN | apply below_drew1 | refine below_set ?_ GE321.out) | exact HB.out)⟩⟩
                                    · rw [if_neg c41] at H
                                      have c41b0 : ((rd x6_1 x14_3) == x12_2) = false := beq_eq_false_iff_ne.mpr c41
                                      have c41b1 : ((rd x6_1 x14_3) != x12_2) = true := bne_iff_ne.mpr c41
                                      have H' := Aside0.mk H
                                      clear H
                                      obtain ⟨Ao49, co49, eo49⟩ := Kd.R_slice HO_7.out
                                      subst eo49
                                      have p326 : 0 ≤ (x14_3 : Int) := of_decide_eq_true (by first | (with_reducible assumption) | assumption)
                                      have q326 : x14_3 < (x7_1.length : Int) := of_decide_eq_true (by first | (with_reducible assumption) | assumption)
                                      obtain ⟨ad326, e326, hx326_0⟩ := Kd.at_bool (Kd.R_reads' HO_7.out).2.2 x14_3 p326 q326
                                      (try rw [← Nbq38.out] at hx326_0)
                                      cases e326
                                      replace p326 := eq_true p326
                                      replace q326 := eq_true q326
                                      obtain ⟨Ao50, co50, eo50⟩ := Kd.R_slice HO_6.out
                                      subst eo50
                                      have p327 : 0 ≤ (x14_3 : Int) := of_decide_eq_true (by first | (with_reducible assumption) | assumption)
                                      have q327 : x14_3 < (x6_1.length : Int) := of_decide_eq_true (by first | (with_reducible assumption) | assumption)
                                      obtain ⟨ad327, e327, hx327_0⟩ := Kd.at_int (Kd.R_reads' HO_6.out).2.2 x14_3 p327 q327
                                      cases e327
                                      replace p327 := eq_true p327
                                      replace q327 := eq_true q327
                                      go_wp2
                                      repeat (go_quiet (fail); try go_wp2)
                                      go_meet
                                      case rel => exact ⟨_, (false), (by first | rfl | (simp; done) | (simp [*]; done)), H', ⟨by have := HK1.out; have := HK2.out; have := HK3.out; first | omega | exact Nat.le_refl _⟩, ⟨by (with_reducible repeat (first | apply Kd.R_alloc | apply Kd.R_drewN | apply Kd.R_drew)); exact HO_6.out⟩, ⟨by (with_reducible repeat (first | apply Kd.R_alloc | apply Kd.R_drewN | apply Kd.R_drew)); exact HO_7.out⟩, ⟨by (with_reducible repeat (first | apply Kd.R_alloc | apply Kd.R_drewN | apply Kd.R_drew)); exact HO_9.out⟩, ⟨by (with_reducible repeat (first | refine blk_drewN ?_ _ | refine blk_drew ?_ | refine blk_alloc ?_ _)); exact BK321.out⟩, ⟨by repeat (first | (with_reducible first | exact HB.out | apply below_alloc | apply pw_below_drewN | apply below_drew1 | refine below_set ?_ GE321.out) | exact HB.out)⟩⟩
                                  · rw [if_neg c40] at H
                                    exact absurd H (by simp)
                                · replace c39 := Bool.eq_false_iff.mpr c39
                                  subst c39
                                  have H1 : (kimberliteref01_Trays.j3 k3 l0 x6_1 x7_1 x8_1 t316 x10_1 x12_2 x13_3 x14_3 false ((rd_T32 l0 (rd t316 x10_1)).f0) ((rd_T32 l0 (rd t316 x10_1)).f1)) = some (r1, r2, r3) := by rw [if_neg (show ¬ (false = true) by decide)] at H; exact H
                                  clear H
                                  have H := H1
                                  clear H1
                                  have H' := Aside0.mk H
                                  clear H
                                  obtain ⟨Ao51, co51, eo51⟩ := Kd.R_slice HO_7.out
                                  subst eo51
                                  have p326 : 0 ≤ (x14_3 : Int) := of_decide_eq_true (by first | (with_reducible assumption) | assumption)
                                  have q326 : x14_3 < (x7_1.length : Int) := of_decide_eq_true (by first | (with_reducible assumption) | assumption)
                                  obtain ⟨ad326, e326, hx326_0⟩ := Kd.at_bool (Kd.R_reads' HO_7.out).2.2 x14_3 p326 q326
                                  (try rw [← Nbq38.out] at hx326_0)
                                  cases e326
                                  replace p326 := eq_true p326
                                  replace q326 := eq_true q326
                                  go_wp2
                                  repeat (go_quiet (fail); try go_wp2)
                                  go_meet
                                  case rel => exact ⟨_, (false), (by first | rfl | (simp; done) | (simp [*]; done)), H', ⟨by have := HK1.out; have := HK2.out; have := HK3.out; first | omega | exact Nat.le_refl _⟩, ⟨by (with_reducible repeat (first | apply Kd.R_alloc | apply Kd.R_drewN | apply Kd.R_drew)); exact HO_6.out⟩, ⟨by (with_reducible repeat (first | apply Kd.R_alloc | apply Kd.R_drewN | apply Kd.R_drew)); exact HO_7.out⟩, ⟨by (with_reducible repeat (first | apply Kd.R_alloc | apply Kd.R_drewN | apply Kd.R_drew)); exact HO_9.out⟩, ⟨by (with_reducible repeat (first | refine blk_drewN ?_ _ | refine blk_drew ?_ | refine blk_alloc ?_ _)); exact BK321.out⟩, ⟨by repeat (first | (with_reducible first | exact HB.out | apply below_alloc | apply pw_below_drewN | apply below_drew1 | refine below_set ?_ GE321.out) | exact HB.out)⟩⟩
                              · rw [if_neg c37] at H
                                exact absurd H (by simp)
                            · rw [if_neg c36] at H
                              exact absurd H (by simp)
                           case rest =>
                            clear HC35
                            try clear c1
                            try clear c2
                            try clear p2
                            try clear q2
                            try clear hx2
                            try clear hf2
                            try clear c3
                            try clear c3b0
                            try clear c3b1
                            try clear p3
                            try clear q3
                            try clear hx3
                            try clear c4
                            try clear c4b0
                            try clear c4b1
                            try clear c5
                            try clear c5b0
                            try clear c5b1
                            try clear c6
                            try clear c6b0
                            try clear c6b1
                            try clear p6
                            try clear c14
                            try clear c14b0
                            try clear c15
                            try clear c15b0
                            try clear c16
                            try clear c16b0
                            try clear c17
                            try clear c17b0
                            try clear c21
                            try clear c22
                            try clear c22b0
                            try clear c23
                            try clear c23b0
                            try clear c24
                            try clear c24b0
                            try clear c25
                            try clear c25b0
                            try clear p26
                            try clear q26
                            try clear hx26
                            try clear hf26
                            try clear c27
                            try clear c27b0
                            try clear p28
                            try clear q28
                            try clear hx28
                            try clear hf28
                            try clear p31
                            try clear q31
                            try clear hx31
                            try clear p32
                            try clear q32
                            try clear hx32
                            try clear c34
                            try clear c34b0
                            try clear c36
                            try clear c36b0
                            try clear c37
                            try clear c37b0
                            try clear q38
                            try clear c39
                            try clear c40
                            try clear c40b0
                            try clear c41
                            try clear c41b0
                            try clear c41b1
                            try clear c42
                            try clear c42b0
                            try clear c48
                            try clear hcz20_0
                            try clear hcz20_1
                            try clear hcz45_0
                            try clear hcz45_1
                            try clear hcz48_0
                            try clear hcz48_1
                            try clear hfz20_0
                            try clear hfz20_1
                            try clear hfz45_0
                            try clear hfz45_1
                            try clear hfz48_0
                            try clear hfz48_1
                            try clear hx26_0
                            try clear hx28_0
                            try clear hx319_0
                            try clear hx320_0
                            try clear hx320_1
                            try clear hx322_0
                            try clear hx324_0
                            try clear hx326_0
                            try clear hx327_0
                            try clear hx328_0
                            try clear hx328_1
                            try clear hx329_0
                            try clear hx329_1
                            try clear p2
                            try clear p26
                            try clear p28
                            try clear p3
                            try clear p31
                            try clear p319
                            try clear p32
                            try clear p320
                            try clear p322
                            try clear p324
                            try clear p326
                            try clear p327
                            try clear p328
                            try clear p329
                            try clear p6
                            try clear q2
                            try clear q26
                            try clear q28
                            try clear q3
                            try clear q31
                            try clear q319
                            try clear q32
                            try clear q320
                            try clear q322
                            try clear q324
                            try clear q326
                            try clear q327
                            try clear q328
                            try clear q329
                            obtain ⟨kq, x80_34, rfl, HA, HJ34, HO_6, HO_7, HO_9, BK321, HB⟩ := hcut
                            cases kq with
                            | zero => exact absurd HA.out (by simp [kimberliteref01_Trays.j3])
                            | succ kj34 =>
                             have H := HA.out
                             clear HA
                             simp only [kimberliteref01_Trays.j3] at H
                             by_cases c52 : x80_34 = true
                             · subst c52
                               have H1 : (kimberliteref01_Trays.l2 kj34 l0 x6_1 x7_1 x8_1 t316 x10_1 x12_2 false (wrap64 (x14_3 + 1)) ((rd_T32 l0 (rd t316 x10_1)).f0) ((rd_T32 l0 (rd t316 x10_1)).f1)) = some (r1, r2, r3) := by rw [if_pos rfl] at H; exact H
                               clear H
                               have H := H1
                               clear H1
                               have H' := Aside0.mk H
                               clear H
                               go_wp2
                               repeat (go_quiet (fail); try go_wp2)
                               go_roundg kj34
                               case measure => have := HK1.out; have := HK2.out; have := HK3.out; have := HJ34.out; omega
                               case rel => exact ⟨(false), (wrap64 (x14_3 + 1)), (by first | rfl | (simp; done) | (simp [*]; done)), (by first | rfl | (simp; done) | (simp [*]; done)), H', ⟨by have := HK1.out; have := HK2.out; have := HK3.out; have := HJ34.out; omega⟩, ⟨by (with_reducible repeat (first | apply Kd.R_alloc | apply Kd.R_drewN | apply Kd.R_drew)); exact HO_6.out⟩, ⟨by (with_reducible repeat (first | apply Kd.R_alloc | apply Kd.R_drewN | apply Kd.R_drew)); exact HO_7.out⟩, ⟨by (with_reducible repeat (first | apply Kd.R_alloc | apply Kd.R_drewN | apply Kd.R_drew)); exact HO_9.out⟩, ⟨by (with_reducible repeat (first | refine blk_drewN ?_ _ | refine blk_drew ?_ | refine blk_alloc ?_ _)); exact BK321.out⟩, ⟨by repeat (first | (with_reducible first | exact HB.out | apply below_alloc | apply pw_below_drewN | apply below_drew1 | refine below_set ?_ GE321.out) | exact HB.out)⟩⟩
                             · replace c52 := Bool.eq_false_iff.mpr c52
                               subst c52
                               have H1 : (kimberliteref01_Trays.l2 kj34 l0 x6_1 x7_1 x8_1 t316 x10_1 x12_2 x13_3 (wrap64 (x14_3 + 1)) ((rd_T32 l0 (rd t316 x10_1)).f0) ((rd_T32 l0 (rd t316 x10_1)).f1)) = some (r1, r2, r3) := by rw [if_neg (show ¬ (false = true) by decide)] at H; exact H
                               clear H
                               have H := H1
                               clear H1
                               have H' := Aside0.mk H
                               clear H
                               go_wp2
                               repeat (go_quiet (fail); try go_wp2)
                               go_roundg kj34
                               case measure => have := HK1.out; have := HK2.out; have := HK3.out; have := HJ34.out; omega
                               case rel => exact ⟨(x13_3), (wrap64 (x14_3 + 1)), (by first | rfl | (simp; done) | (simp [*]; done)), (by first | rfl | (simp; done) | (simp [*]; done)), H', ⟨by have := HK1.out; have := HK2.out; have := HK3.out; have := HJ34.out; omega⟩, ⟨by (with_reducible repeat (first | apply Kd.R_alloc | apply Kd.R_drewN | apply Kd.R_drew)); exact HO_6.out⟩, ⟨by (with_reducible repeat (first | apply Kd.R_alloc | apply Kd.R_drewN | apply Kd.R_drew)); exact HO_7.out⟩, ⟨by (with_reducible repeat (first | apply Kd.R_alloc | apply Kd.R_drewN | apply Kd.R_drew)); exact HO_9.out⟩, ⟨by (with_reducible repeat (first | refine blk_drewN ?_ _ | refine blk_drew ?_ | refine blk_alloc ?_ _)); exact BK321.out⟩, ⟨by repeat (first | (with_reducible first | exact HB.out | apply below_alloc | apply pw_below_drewN | apply below_drew1 | refine below_set ?_ GE321.out) | exact HB.out)⟩⟩
                         · rw [if_neg c34] at H
                           have c34b0 : decide (x14_3 < (l0.length : Int)) = false := decide_eq_false c34
                           clear c34
                           by_cases c53 : x13_3 = true
                           · subst c53
                             have H1 : (kimberliteref01_Trays.l1 k3 l0 x6_1 x7_1 x8_1 t316 x10_1 x12_2 true ((rd_T32 l0 (rd t316 x10_1)).f0) ((rd_T32 l0 (rd t316 x10_1)).f1)) = some (r1, r2, r3) := by rw [if_pos rfl] at H; exact H
                             clear H
                             have H := H1
                             clear H1
                             have H' := Aside0.mk H
                             clear H
                             go_wp2
                             repeat (go_quiet (fail); try go_wp2)
                             go_roundg k3
                             case measure => have := HK1.out; have := HK2.out; have := HK3.out; omega
                             case rel => exact ⟨(x12_2), (true), (by first | rfl | (simp; done) | (simp [*]; done)), (by first | rfl | (simp; done) | (simp [*]; done)), H', ⟨by have := HK1.out; have := HK2.out; have := HK3.out; omega⟩, ⟨by (with_reducible repeat (first | apply Kd.R_alloc | apply Kd.R_drewN | apply Kd.R_drew)); exact HO_6.out⟩, ⟨by (with_reducible repeat (first | apply Kd.R_alloc | apply Kd.R_drewN | apply Kd.R_drew)); exact HO_7.out⟩, ⟨by (with_reducible repeat (first | apply Kd.R_alloc | apply Kd.R_drewN | apply Kd.R_drew)); exact HO_9.out⟩, ⟨by (with_reducible repeat (first | refine blk_drewN ?_ _ | refine blk_drew ?_ | refine blk_alloc ?_ _)); exact BK321.out⟩, ⟨by repeat (first | (with_reducible first | exact HB.out | apply below_alloc | apply pw_below_drewN | apply below_drew1 | refine below_set ?_ GE321.out) | exact HB.out)⟩⟩
                           · replace c53 := Bool.eq_false_iff.mpr c53
                             subst c53
                             have H1 : (kimberliteref01_Trays.l1 k3 l0 x6_1 x7_1 x8_1 t316 x10_1 (wrap64 (x12_2 + 1)) false ((rd_T32 l0 (rd t316 x10_1)).f0) ((rd_T32 l0 (rd t316 x10_1)).f1)) = some (r1, r2, r3) := by rw [if_neg (show ¬ (false = true) by decide)] at H; exact H
                             clear H
                             have H := H1
                             clear H1
                             have H' := Aside0.mk H
                             clear H
                             go_wp2
                             repeat (go_quiet (fail); try go_wp2)
                             go_roundg k3
                             case measure => have := HK1.out; have := HK2.out; have := HK3.out; omega
                             case rel => exact ⟨(wrap64 (x12_2 + 1)), (false), (by first | rfl | (simp; done) | (simp [*]; done)), (by first | rfl | (simp; done) | (simp [*]; done)), H', ⟨by have := HK1.out; have := HK2.out; have := HK3.out; omega⟩, ⟨by (with_reducible repeat (first | apply Kd.R_alloc | apply Kd.R_drewN | apply Kd.R_drew)); exact HO_6.out⟩, ⟨by (with_reducible repeat (first | apply Kd.R_alloc | apply Kd.R_drewN | apply Kd.R_drew)); exact HO_7.out⟩, ⟨by (with_reducible repeat (first | apply Kd.R_alloc | apply Kd.R_drewN | apply Kd.R_drew)); exact HO_9.out⟩, ⟨by (with_reducible repeat (first | refine blk_drewN ?_ _ | refine blk_drew ?_ | refine blk_alloc ?_ _)); exact BK321.out⟩, ⟨by repeat (first | (with_reducible first | exact HB.out | apply below_alloc | apply pw_below_drewN | apply below_drew1 | refine below_set ?_ GE321.out) | exact HB.out)⟩⟩
                 · rw [if_neg c17] at H
                   exact absurd H (by simp)
               · rw [if_neg c16] at H
                 exact absurd H (by simp)
             · rw [if_neg c15] at H
               exact absurd H (by simp)
           · rw [if_neg c14] at H
             have c14b0 : decide (x10_1 < (t316.length : Int)) = false := decide_eq_false c14
             clear c14
             simp only [Option.some.injEq, Prod.mk.injEq] at H
             obtain ⟨rfl, rfl, rfl⟩ := H
             obtain ⟨Ao54, co54, eo54⟩ := Kd.R_slice HO_9.out
             subst eo54
             go_wp2
             repeat (go_quiet (fail); try go_wp2)
             go_ret3
             exact ⟨_, by first | rfl | (simp [errW_none, errW_some] <;> rfl) | (simp [*, errW_none, errW_some] <;> rfl), by (with_reducible repeat (first | apply Kd.R_alloc | apply Kd.R_drewN | apply Kd.R_drew)); exact Kd.R_mono HO_6.out (fun _ hk => trivial), by repeat (first | (with_reducible first | exact HB.out | apply below_alloc | apply pw_below_drewN | apply below_drew1) | exact HB.out)⟩
       · rw [if_neg c6] at H
         exact absurd H (by simp)
     · rw [if_neg c5] at H
       exact absurd H (by simp)
   · rw [if_neg c4] at H
     exact absurd H (by simp)
 · rw [if_neg c3] at H
   have c3b0 : (t309 == 0) = false := beq_eq_false_iff_ne.mpr c3
   have c3b1 : (t309 != 0) = true := bne_iff_ne.mpr c3
   simp only [Option.some.injEq, Prod.mk.injEq] at H
   obtain ⟨rfl, rfl, rfl⟩ := H
   go_enter Try.func48, Try.ntmps48
   go_wp2_with (first | (go_at_call 62; (with_reducible refine (kimberliteref01_List.calls k _ _ l0 t309 _ ?side1 ?side2 A2.out).mono ?_); (case side1 => repeat (first | exact HR0.out | (with_reducible refine Kd.C_alloc ?_ _) | (with_reducible refine Kd.C_drewN ?_ _) | (with_reducible refine Kd.C_drew ?_))); (case side2 => exact HC0.out); rintro e w55 ⟨rfl, hb⟩; have n0_ := Aside0.mk (below_step (by repeat (first | (with_reducible first | exact HB.out | apply below_alloc | apply pw_below_drewN | apply below_drew1) | exact HB.out)) hb); clear HB; have HB := n0_; clear n0_; (try clear hb); (try clear hb2); (try clear hk); (try clear hi)))
   repeat (go_quiet (first | (go_at_call 62; (with_reducible refine (kimberliteref01_List.calls k _ _ l0 t309 _ ?side1 ?side2 A2.out).mono ?_); (case side1 => repeat (first | exact HR0.out | (with_reducible refine Kd.C_alloc ?_ _) | (with_reducible refine Kd.C_drewN ?_ _) | (with_reducible refine Kd.C_drew ?_))); (case side2 => exact HC0.out); rintro e w55 ⟨rfl, hb⟩; have n0_ := Aside0.mk (below_step (by repeat (first | (with_reducible first | exact HB.out | apply below_alloc | apply pw_below_drewN | apply below_drew1) | exact HB.out)) hb); clear HB; have HB := n0_; clear n0_; (try clear hb); (try clear hb2); (try clear hk); (try clear hi))); try go_wp2_with (first | (go_at_call 62; (with_reducible refine (kimberliteref01_List.calls k _ _ l0 t309 _ ?side1 ?side2 A2.out).mono ?_); (case side1 => repeat (first | exact HR0.out | (with_reducible refine Kd.C_alloc ?_ _) | (with_reducible refine Kd.C_drewN ?_ _) | (with_reducible refine Kd.C_drew ?_))); (case side2 => exact HC0.out); rintro e w55 ⟨rfl, hb⟩; have n0_ := Aside0.mk (below_step (by repeat (first | (with_reducible first | exact HB.out | apply below_alloc | apply pw_below_drewN | apply below_drew1) | exact HB.out)) hb); clear HB; have HB := n0_; clear n0_; (try clear hb); (try clear hb2); (try clear hk); (try clear hi))))
   go_ret3
   exact ⟨_, by first | rfl | (simp [errW_none, errW_some] <;> rfl) | (simp [*, errW_none, errW_some] <;> rfl), by first | exact Kd.R_nil _ _ _ _ _ | exact Kd.N_nil _ _ _ _ _ | exact Kd.V_nil _ _ _ _ _ | exact Kd.Q_nil _ _ _ _ _ | exact Kd.S_nil _ _ _ _ _, by repeat (first | (with_reducible first | exact HB.out | apply below_alloc | apply pw_below_drewN | apply below_drew1) | exact HB.out)⟩
end Go.Proofs.Ytningpmoojnomaa.Pr
end
section
namespace Go.Proofs.Ytningpmoojnomaa.Pr
open Go.RowKit Go.Proofs.YtningpmoojnomaaW.PrintWords Go.Proofs.YtningpmoojnomaaW.PrintLast Go.Proofs.YtningpmoojnomaaW.PrintMore
set_option linter.unusedVariables false
set_option linter.unusedSimpArgs false
theorem rdM (t : List Int) (i : Nat) (h : i < t.length) : rd t (i : Int) = t[i] := by
  unfold rd
  simp [List.getD_eq_getElem?_getD, List.getElem?_eq_getElem h]
def kB (b : Bool) (l : List S32) (i : Int) : Int := if b = true then (rd_T32 l i).f1 else (rd_T32 l i).f0
theorem kB_true (l : List S32) : kB true l = kHi l := by funext i; unfold kB; rw [if_pos rfl]; rfl
theorem kB_false (l : List S32) : kB false l = kLo l := by funext i; unfold kB; rw [if_neg (by simp)]; rfl
theorem irange_snoc (n : Nat) : irange 0 (n + 1) = irange 0 n ++ [(n : Int)] := by
  rw [← irange_append 0 n (n + 1) (by omega) (by omega)]
  congr 1
  simp [irange]
theorem ins_byL (kf : Int → Int) (n p : Nat) (h1 : ∀ y ∈ (byL kf n).take p, ¬ kf n < kf y) (h2 : ∀ y ∈ (byL kf n).drop p, kf n < kf y) : (byL kf n).take p ++ (n : Int) :: (byL kf n).drop p = byL kf (n + 1) := by
  have hm : ∀ y ∈ byL kf n, y < (n : Int) := fun y hy => ((byL_mem kf n y).1 hy).2
  have hs := byL_sorted kf n
  rw [← List.take_append_drop p (byL kf n), List.pairwise_append] at hs
  refine byL_unique ?_ ?_
  · rw [List.pairwise_append, List.pairwise_cons]
    refine ⟨hs.1, ⟨fun y hy => .inl (h2 y hy), hs.2.1⟩, fun a ha b hb => ?_⟩
    rcases List.mem_cons.1 hb with rfl | hb
    · have := h1 a ha
      have := hm a (List.mem_of_mem_take ha)
      unfold Ord
      omega
    · exact hs.2.2 a ha b hb
  · refine List.perm_middle.trans ?_
    rw [List.take_append_drop, irange_snoc]
    exact ((List.perm_append_singleton (n : Int) (byL kf n)).symm).trans ((byL_perm kf n).append_right _)
theorem srt_done (l : List S32) (b : Bool) (O M : List Int) (n : Nat) (hn : n < l.length) (hl : l.length ≤ 1000) (hO : ∀ y ∈ O, 0 ≤ y ∧ y < (l.length : Int)) (hOl : O.length ≤ 2000) (r : List Int) (K : Ev (fun k => kimberliteref01_sorted.l0 k l b M ((n + 1 : Nat) : Int)) r) :
    ∀ (d q : Nat) (pre : List Int), O.length - q = d → pre.length ≤ 2000 + q → pre ++ O.drop q = M → Ev (fun k => kimberliteref01_sorted.l1 k l b O (n : Int) pre true (q : Int)) r
  | 0, q, pre, h, hp, e => by
    rw [List.drop_eq_nil_of_le (by omega), List.append_nil] at e
    subst e
    refine Ev.step (fun k => ?_) K
    simp only [kimberliteref01_sorted.l1]
    rw [if_neg (by omega), if_pos trivial, wrap_succ hn (by omega)]
  | d + 1, q, pre, h, hp, e => by
    have hq : q < O.length := by omega
    have hy := hO O[q] (List.getElem_mem hq)
    rw [dropI O q hq] at e
    have ih := srt_done l b O M n hn hl hO hOl r K d (q + 1) (pre ++ [rd O (q : Int)]) (by omega) (by simp; omega) (by rw [← e]; simp)
    rw [← rdM O q hq] at hy
    refine Ev.step (f := fun k => kimberliteref01_sorted.j2 k l b O (n : Int) pre true (q : Int) (kB b l (n : Int)) (kB b l (rd O (q : Int)))) (fun k => ?_) ?_
    · simp only [kimberliteref01_sorted.l1]
      rw [if_pos (by omega), if_pos (by omega), if_pos (by omega), if_pos (by omega), if_pos hy.1, if_pos hy.2]
      unfold kB
      cases b <;> simp
    · refine Ev.step (f := fun k => kimberliteref01_sorted.j3 k l b O (n : Int) pre true (q : Int) false) (fun k => by simp only [kimberliteref01_sorted.j2]; rw [if_pos trivial]) ?_
      refine Ev.step (fun k => ?_) ih
      simp only [kimberliteref01_sorted.j3]
      rw [if_neg (by simp), if_pos (by omega), if_pos (by omega), if_pos (by omega), wrap_succ hq (by omega)]
theorem srt_scan (l : List S32) (b : Bool) (n : Nat) (hn : n < l.length) (hl : l.length ≤ 1000) (r : List Int) (K : Ev (fun k => kimberliteref01_sorted.l0 k l b (byL (kB b l) (n + 1)) ((n + 1 : Nat) : Int)) r) :
    ∀ (d q : Nat), n - q = d → q ≤ n → (∀ y ∈ (byL (kB b l) n).take q, ¬ kB b l n < kB b l y) → Ev (fun k => kimberliteref01_sorted.l1 k l b (byL (kB b l) n) (n : Int) ((byL (kB b l) n).take q) false (q : Int)) r
  | 0, q, h, hqn, hp => by
    have hlen := byL_len (kB b l) n
    have e := ins_byL (kB b l) n q hp (by rw [List.drop_eq_nil_of_le (by omega)]; intro y hy; cases hy)
    rw [List.drop_eq_nil_of_le (by omega)] at e
    refine Ev.step (fun k => ?_) K
    simp only [kimberliteref01_sorted.l1]
    rw [if_neg (by omega), if_neg (by simp), if_pos (by rw [List.length_take]; omega), wrap_succ hn (by omega), e]
  | d + 1, q, h, hqn, hp => by
    have hlen := byL_len (kB b l) n
    have hq : q < (byL (kB b l) n).length := by omega
    have hO : ∀ y ∈ byL (kB b l) n, 0 ≤ y ∧ y < (l.length : Int) := fun y hy => by
      have := (byL_mem _ _ _).1 hy
      omega
    have hy := hO _ (List.getElem_mem hq)
    rw [← rdM _ q hq] at hy
    refine Ev.step (f := fun k => kimberliteref01_sorted.j2 k l b (byL (kB b l) n) (n : Int) ((byL (kB b l) n).take q) false (q : Int) (kB b l (n : Int)) (kB b l (rd (byL (kB b l) n) (q : Int)))) (fun k => ?_) ?_
    · simp only [kimberliteref01_sorted.l1]
      rw [if_pos (by omega), if_pos (by omega), if_pos (by omega), if_pos (by omega), if_pos hy.1, if_pos hy.2]
      generalize byL (kB b l) n = O
      unfold kB
      cases b <;> simp
    · refine Ev.step (f := fun k => kimberliteref01_sorted.j3 k l b (byL (kB b l) n) (n : Int) ((byL (kB b l) n).take q) false (q : Int) (decide (kB b l (n : Int) < kB b l (rd (byL (kB b l) n) (q : Int))))) (fun k => by simp only [kimberliteref01_sorted.j2]; rw [if_neg (by simp)]) ?_
      by_cases c : kB b l (n : Int) < kB b l (rd (byL (kB b l) n) (q : Int))
      · rw [decide_eq_true c]
        have hdrop : ∀ y ∈ (byL (kB b l) n).drop q, kB b l (n : Int) < kB b l y := fun y hy => by
          obtain ⟨j, hj, rfl⟩ := List.mem_iff_getElem.1 hy
          rw [List.length_drop] at hj
          rw [List.getElem_drop]
          rw [rdM _ q hq] at c
          by_cases hj0 : j = 0
          · subst hj0; exact c
          · have := (List.pairwise_iff_getElem.1 (byL_sorted (kB b l) n)) q (q + j) hq (by omega) (by omega)
            unfold Ord at this
            omega
        have e := ins_byL (kB b l) n q hp hdrop
        have dn := srt_done l b (byL (kB b l) n) (byL (kB b l) (n + 1)) n hn hl hO (by omega) r K _ (q + 1) ((byL (kB b l) n).take q ++ [(n : Int)] ++ [rd (byL (kB b l) n) (q : Int)]) rfl (by simp; omega) (by rw [← e, dropI _ q hq]; simp)
        refine Ev.step (fun k => ?_) dn
        simp only [kimberliteref01_sorted.j3]
        rw [if_pos trivial, if_pos (by rw [List.length_take]; omega), Option.bind_some, if_pos (by omega), if_pos (by omega), if_pos (by simp; omega), wrap_succ hq (by omega)]
      · rw [decide_eq_false c]
        have ih := srt_scan l b n hn hl r K d (q + 1) (by omega) (by omega) (fun y hy => by
          rw [List.take_succ_eq_append_getElem hq] at hy
          rcases List.mem_append.1 hy with hy | hy
          · exact hp y hy
          · rw [List.mem_singleton] at hy
            subst hy
            rw [← rdM _ q hq]
            exact c)
        rw [List.take_succ_eq_append_getElem hq, ← rdM _ q hq] at ih
        refine Ev.step (fun k => ?_) ih
        simp only [kimberliteref01_sorted.j3]
        rw [if_neg (by simp), if_pos (by omega), if_pos (by omega), if_pos (by rw [List.length_take]; omega), wrap_succ hq (by omega)]
theorem srt_l0 (l : List S32) (b : Bool) (hl : l.length ≤ 1000) : ∀ (d n : Nat), l.length - n = d → n ≤ l.length → Ev (fun k => kimberliteref01_sorted.l0 k l b (byL (kB b l) n) (n : Int)) (byL (kB b l) l.length)
  | 0, n, h, hn => by
    obtain rfl : n = l.length := by omega
    exact Ev.step (f := fun _ => some (byL (kB b l) l.length)) (fun k => by simp only [kimberliteref01_sorted.l0]; rw [if_neg (by omega)]) (Ev.now _)
  | d + 1, n, h, hn => by
    refine Ev.step (f := fun k => kimberliteref01_sorted.l1 k l b (byL (kB b l) n) (n : Int) ((byL (kB b l) n).take 0) false ((0 : Nat) : Int)) (fun k => by simp only [kimberliteref01_sorted.l0]; rw [if_pos (by omega)]; rfl) ?_
    exact srt_scan l b n (by omega) hl _ (srt_l0 l b hl d (n + 1) (by omega) (by omega)) _ 0 rfl (by omega) (by simp)
theorem sorted_ev (l : List S32) (b : Bool) (hl : l.length ≤ 1000) : Ev (fun k => kimberliteref01_sorted.f k l b) (byL (kB b l) l.length) := by
  have := srt_l0 l b hl _ 0 rfl (by omega)
  have e : byL (kB b l) 0 = [] := List.eq_nil_of_length_eq_zero (byL_len _ 0)
  rw [e] at this
  exact this
theorem rpt_l1 (l : List S32) (P D O : List Int) (i : Nat) (hi2 : i < O.length) (lo hi : Int) (hP : P.length ≤ 2000) (hD : D.length ≤ 2000) (hO : O.length ≤ 2000) (r : List Int × List Int × Int) :
    ∀ (d q : Nat) (m : Bool), P.length - q = d →
      Ev (fun k => if (m || (P.drop q).any (fun y => decide (lo ≤ y) && decide (y < hi))) = true then kimberliteref01_Points.l0 k l P D O ((i + 1 : Nat) : Int) else kimberliteref01_Points.l0 k l (P ++ [wrap64 (hi - 1)]) (D ++ [rd O (i : Int)]) O ((i + 1 : Nat) : Int)) r →
      Ev (fun k => kimberliteref01_Points.l1 k l P D O (i : Int) m (q : Int) lo hi) r
  | 0, q, m, h, hr => by
    rw [List.drop_eq_nil_of_le (by omega)] at hr
    refine Ev.step (fun k => ?_) hr
    simp only [kimberliteref01_Points.l1]
    rw [if_neg (by omega), wrap_succ hi2 (by omega)]
    cases m with
    | true => simp
    | false => rw [if_neg (by simp), if_pos (by omega), if_pos (by omega), if_pos (by omega), if_pos (by omega)]; simp
  | d + 1, q, m, h, hr => by
    have hq : q < P.length := by omega
    rw [dropI P q hq, List.any_cons] at hr
    cases m with
    | true =>
      refine Ev.step (fun k => ?_) (rpt_l1 l P D O i hi2 lo hi hP hD hO r d (q + 1) true (by omega) (by simpa using hr))
      simp only [kimberliteref01_Points.l1]
      rw [if_pos (by omega), if_pos trivial, wrap_succ hq (by omega)]
    | false =>
      refine Ev.step (fun k => ?_) (rpt_l1 l P D O i hi2 lo hi hP hD hO r d (q + 1) (decide (lo ≤ rd P (q : Int)) && decide (rd P (q : Int) < hi)) (by omega) (by simpa using hr))
      simp only [kimberliteref01_Points.l1]
      rw [if_pos (by omega), if_neg (by simp), if_pos (by omega), wrap_succ hq (by omega)]
      by_cases c : lo ≤ rd P (q : Int)
      · rw [if_pos c, decide_eq_true c, Bool.true_and]
      · rw [if_neg c, decide_eq_false c, Bool.false_and]
/-- Some point lies in the span, if and only if the last one does. -/
theorem pts_met (l : List S32) (done P D : List Int) (x : Int) (h : Pts l done P D) (hg : ∀ y, y ∈ done ∨ y = x → (spL l y).f0 < (spL l y).f1) (ho : ∀ y ∈ done, (spL l y).f1 ≤ (spL l x).f1) :
    P.any (fun y => decide ((spL l x).f0 ≤ y) && decide (y < (spL l x).f1)) = true ↔ ¬ (P = [] ∨ P.getLastD 0 < (spL l x).f0) := by
  have hlen := h.len
  rw [List.any_eq_true]
  constructor
  · rintro ⟨y, hy, h1⟩ hc
    simp only [Bool.and_eq_true, decide_eq_true_eq] at h1
    rcases hc with hc | hc
    · rw [hc] at hy; cases hy
    · have hP : P ≠ [] := fun he => by rw [he] at hy; cases hy
      have hpos := List.length_pos_iff.2 hP
      rw [getLastD_at P hP] at hc
      obtain ⟨j, hj, rfl⟩ := List.mem_iff_getElem.1 hy
      by_cases hjl : j = P.length - 1
      · subst hjl; omega
      · have h2 := h.low j (P.length - 1) (by omega) (by omega)
        have h3 := h.at_ (P.length - 1) (by omega)
        have h4 := hg (D[P.length - 1]'(by omega)) (.inl (h.sub _ (List.getElem_mem _)))
        omega
  · intro hc
    have hP : P ≠ [] := fun he => hc (.inl he)
    have hq : ¬ P.getLastD 0 < (spL l x).f0 := fun he => hc (.inr he)
    have hpos := List.length_pos_iff.2 hP
    rw [getLastD_at P hP] at hq
    have h2 := h.at_ (P.length - 1) (by omega)
    have h3 := ho (D[P.length - 1]'(by omega)) (h.sub _ (List.getElem_mem _))
    refine ⟨P[P.length - 1], List.getElem_mem _, ?_⟩
    simp only [Bool.and_eq_true, decide_eq_true_eq]
    omega
theorem ord_hi (l : List S32) (a b : Int) (h : Ord (kHi l) a b) : (spL l a).f1 ≤ (spL l b).f1 := by
  simp only [Ord, kHi, kfS] at h
  unfold spL
  omega
theorem ord_lo (l : List S32) (a b : Int) (h : Ord (kLo l) a b) : (spL l a).f0 ≤ (spL l b).f0 := by
  simp only [Ord, kLo, kfS] at h
  unfold spL
  omega
theorem rpt_l0 (l : List S32) (hl : l.length ≤ 1000) (hg : ∀ s ∈ l, -1099511627776 ≤ s.f0 ∧ s.f0 < s.f1 ∧ s.f1 ≤ 1099511627776) : ∀ (d i : Nat), l.length - i = d → i ≤ l.length → Ev (fun k => kimberliteref01_Points.l0 k l (stabF l ((byL (kHi l) l.length).take i)).1 (stabF l ((byL (kHi l) l.length).take i)).2 (byL (kHi l) l.length) (i : Int)) ((stabF l (byL (kHi l) l.length)).1, (stabF l (byL (kHi l) l.length)).2, 0)
  | 0, i, h, hi => by
    have hlen := byL_len (kHi l) l.length
    rw [List.take_of_length_le (by omega)]
    exact Ev.step (f := fun _ => some ((stabF l (byL (kHi l) l.length)).1, (stabF l (byL (kHi l) l.length)).2, 0)) (fun k => by simp only [kimberliteref01_Points.l0]; rw [if_neg (by omega)]) (Ev.now _)
  | d + 1, i, h, hi => by
    have hlen := byL_len (kHi l) l.length
    have hiO : i < (byL (kHi l) l.length).length := by omega
    have ih := rpt_l0 l hl hg d (i + 1) (by omega) (by omega)
    have hO : ∀ y ∈ byL (kHi l) l.length, 0 ≤ y ∧ y < (l.length : Int) := fun y hy => (byL_mem _ _ _).1 hy
    have hy := hO _ (List.getElem_mem hiO)
    have hst := stabF_len l (byL (kHi l) l.length) i (by omega)
    have hpt := pts_fold l _ (byL_sorted (kHi l) l.length) (fun y hy => spL_good hg y (hO y hy).1 (hO y hy).2) i (by omega)
    have hmet := pts_met l _ _ _ ((byL (kHi l) l.length)[i]) hpt (fun y hy2 => by
      rcases hy2 with hy2 | rfl
      · have := hO y (List.mem_of_mem_take hy2)
        exact (spL_good hg y this.1 this.2).2.1
      · exact (spL_good hg _ hy.1 hy.2).2.1) (fun y hy2 => by
      obtain ⟨j, hj, rfl⟩ := List.mem_iff_getElem.1 hy2
      rw [List.length_take] at hj
      rw [List.getElem_take]
      exact ord_hi l _ _ ((List.pairwise_iff_getElem.1 (byL_sorted (kHi l) l.length)) j i (by omega) hiO (by omega)))
    rw [← rdM _ i hiO] at hy hmet
    rw [stabF_succ l _ i hiO] at ih
    generalize stabF l ((byL (kHi l) l.length).take i) = st at hst hmet ih hpt ⊢
    obtain ⟨P, D⟩ := st
    refine Ev.step (f := fun k => kimberliteref01_Points.l1 k l P D (byL (kHi l) l.length) (i : Int) false ((0 : Nat) : Int) (rd_T32 l (rd (byL (kHi l) l.length) (i : Int))).f0 (rd_T32 l (rd (byL (kHi l) l.length) (i : Int))).f1) (fun k => by simp only [kimberliteref01_Points.l0]; rw [if_pos (by omega), if_pos (by omega), if_pos hy.1, if_pos hy.2]; rfl) ?_
    refine rpt_l1 l P D _ i hiO _ _ (by have := hst.1; simp only at this; omega) (by have := hst.2; simp only at this; omega) (by omega) _ _ 0 false rfl ?_
    rw [List.drop_zero, Bool.false_or]
    change Ev (fun k => if P.any (fun y => decide ((spL l (rd (byL (kHi l) l.length) (i : Int))).f0 ≤ y) && decide (y < (spL l (rd (byL (kHi l) l.length) (i : Int))).f1)) = true then _ else _) _
    unfold stabS at ih
    change Ev (fun k => kimberliteref01_Points.l0 k l (if P = [] ∨ P.getLastD 0 < (spL l (rd (byL (kHi l) l.length) (i : Int))).f0 then (P ++ [wrap64 ((spL l (rd (byL (kHi l) l.length) (i : Int))).f1 - 1)], D ++ [rd (byL (kHi l) l.length) (i : Int)]) else (P, D)).1 (if P = [] ∨ P.getLastD 0 < (spL l (rd (byL (kHi l) l.length) (i : Int))).f0 then (P ++ [wrap64 ((spL l (rd (byL (kHi l) l.length) (i : Int))).f1 - 1)], D ++ [rd (byL (kHi l) l.length) (i : Int)]) else (P, D)).2 (byL (kHi l) l.length) ((i + 1 : Nat) : Int)) _ at ih
    by_cases c : P = [] ∨ P.getLastD 0 < (spL l (rd (byL (kHi l) l.length) (i : Int))).f0
    · have hf : P.any (fun y => decide ((spL l (rd (byL (kHi l) l.length) (i : Int))).f0 ≤ y) && decide (y < (spL l (rd (byL (kHi l) l.length) (i : Int))).f1)) = false := by
        rw [← Bool.not_eq_true]
        exact fun hc => hmet.1 hc c
      simp only [if_pos c] at ih
      simp only [hf, Bool.false_eq_true, if_false]
      exact ih
    · simp only [if_neg c] at ih
      simp only [hmet.2 c, if_true]
      exact ih
theorem refPoints_ev (l : List S32) : Ev (fun k => kimberliteref01_Points.f k l) (stabR l) := by
  unfold kimberliteref01_Points.f stabR
  refine Ev.bind (refList_ev l) ?_
  by_cases h : listR l = 0
  · have hg := listR_good h
    simp only [if_pos h]
    refine Ev.bind (sorted_ev l true (by omega)) ?_
    rw [kB_true]
    have := rpt_l0 l (by omega) hg.2 _ 0 rfl (by omega)
    exact this
  · simp only [if_neg h]
    exact Ev.now _
theorem idxS_least {α : Type} (p : α → Bool) (l : List α) (z : α) (k : Nat) (e : idxS p l = (k : Int)) (t : Nat) (ht : t < k) : p (l.getD t z) = false := by
  unfold idxS at e
  rcases h : l.findIdx? p with _ | j
  · rw [h] at e; simp only at e; omega
  · rw [h] at e
    simp only at e
    obtain rfl : j = k := by omega
    obtain ⟨hk, _, h2⟩ := List.findIdx?_eq_some_iff_getElem.1 h
    rw [List.getD_eq_getElem?_getD, List.getElem?_eq_getElem (by omega)]
    have := h2 t ht
    simpa using this
def laidB (n : Nat) (done : List Int) : List Bool := (List.range n).map (fun k : Nat => decide ((k : Int) ∈ done))
theorem laidB_at (n : Nat) (done : List Int) (k : Nat) (h : k < n) : rdOf false (laidB n done) (k : Int) = decide ((k : Int) ∈ done) := by
  unfold rdOf laidB
  rw [Int.toNat_natCast, List.getD_eq_getElem?_getD, List.getElem?_map, List.getElem?_range h]
  rfl
theorem laidB_set (n : Nat) (done : List Int) (x : Int) (h0 : 0 ≤ x) (h1 : x < (n : Int)) : (laidB n done).set x.toNat true = laidB n (done ++ [x]) := by
  refine List.ext_getElem (by simp [laidB]) (fun i h1 h2 => ?_)
  rw [List.getElem_set]
  simp only [laidB, List.getElem_map, List.getElem_range]
  by_cases c : x.toNat = i
  · rw [if_pos c]
    symm
    rw [decide_eq_true_eq, List.mem_append, List.mem_singleton]
    right
    omega
  · rw [if_neg c]
    refine decide_eq_decide.2 ?_
    rw [List.mem_append, List.mem_singleton]
    constructor
    · exact .inl
    · rintro (h | h)
      · exact h
      · omega
/-- Span k stands in the way of a span, in that tray. -/
def inWay (l : List S32) (done out : List Int) (t lo hi : Int) (k : Nat) : Bool := decide ((k : Int) ∈ done) && (decide (rd out (k : Int) = t) && (decide ((spL l (k : Int)).f0 < hi) && decide (lo < (spL l (k : Int)).f1)))
theorem rtr_l2 (l : List S32) (done out O : List Int) (used : Int) (i : Nat) (t lo hi : Int) (hl : l.length ≤ 1000) (ho : out.length = l.length) (r : List Int × Int × Int) :
    ∀ (d q : Nat) (fr : Bool), l.length - q = d →
      Ev (fun k => if (fr && !(List.range' q d).any (inWay l done out t lo hi)) = true then kimberliteref01_Trays.l1 k l out (laidB l.length done) used O (i : Int) t true lo hi else kimberliteref01_Trays.l1 k l out (laidB l.length done) used O (i : Int) (wrap64 (t + 1)) false lo hi) r →
      Ev (fun k => kimberliteref01_Trays.l2 k l out (laidB l.length done) used O (i : Int) t fr (q : Int) lo hi) r
  | 0, q, fr, h, hr => by
    refine Ev.step (fun k => ?_) hr
    simp only [kimberliteref01_Trays.l2]
    rw [if_neg (by omega)]
    cases fr <;> simp
  | d + 1, q, fr, h, hr => by
    have hq : q < l.length := by omega
    have hlb : (laidB l.length done).length = l.length := by simp [laidB]
    rw [List.range'_succ, List.any_cons] at hr
    have ih := rtr_l2 l done out O used i t lo hi hl ho r d (q + 1) (fr && !inWay l done out t lo hi q) (by omega) (by
      have e : ((fr && !inWay l done out t lo hi q) && !(List.range' (q + 1) d).any (inWay l done out t lo hi)) = (fr && !(inWay l done out t lo hi q || (List.range' (q + 1) d).any (inWay l done out t lo hi))) := by rw [Bool.not_or, Bool.and_assoc]
      rw [e]
      exact hr)
    refine Ev.step (f := fun k => kimberliteref01_Trays.j3 k l out (laidB l.length done) used O (i : Int) t fr (q : Int) (inWay l done out t lo hi q) lo hi) (fun k => ?_) ?_
    · simp only [kimberliteref01_Trays.l2]
      rw [if_pos (by omega), if_pos (by omega), if_pos (by omega), laidB_at _ _ _ hq]
      unfold inWay
      by_cases c1 : (q : Int) ∈ done
      · rw [if_pos (decide_eq_true c1), if_pos (by omega), decide_eq_true c1, Bool.true_and]
        by_cases c2 : rd out (q : Int) = t
        · rw [if_pos c2, decide_eq_true c2, Bool.true_and]
          change (if (spL l (q : Int)).f0 < hi then kimberliteref01_Trays.j3 k l out (laidB l.length done) used O (i : Int) t fr (q : Int) (decide (lo < (spL l (q : Int)).f1)) lo hi else _) = _
          by_cases c3 : (spL l (q : Int)).f0 < hi
          · rw [if_pos c3, decide_eq_true c3, Bool.true_and]
          · rw [if_neg c3, decide_eq_false c3, Bool.false_and]
        · rw [if_neg c2, decide_eq_false c2, Bool.false_and]
      · rw [if_neg (by simpa using c1), decide_eq_false c1, Bool.false_and]
    · refine Ev.step (fun k => ?_) ih
      simp only [kimberliteref01_Trays.j3]
      rw [wrap_succ hq (by omega)]
      cases inWay l done out t lo hi q <;> cases fr <;> simp
theorem way_iff (l : List S32) (q : Int) (done out ends : List Int) (x : Int) (h : Tr l q done out ends) (hd : ∀ y ∈ done, 0 ≤ y ∧ y < (l.length : Int)) (hgx : (spL l x).f0 < (spL l x).f1) (ho : ∀ y ∈ done, (spL l y).f0 ≤ (spL l x).f0) (t : Nat) :
    (List.range' 0 l.length).any (inWay l done out (t : Int) (spL l x).f0 (spL l x).f1) = true ↔ (t < ends.length ∧ (spL l x).f0 < ends.getD t 0) := by
  rw [List.any_eq_true]
  constructor
  · rintro ⟨k, hk, hw⟩
    unfold inWay at hw
    simp only [Bool.and_eq_true, decide_eq_true_eq] at hw
    obtain ⟨h1, h2, h3, h4⟩ := hw
    have hb := h.box _ h1
    rw [h2, Int.toNat_natCast] at hb
    omega
  · rintro ⟨h1, h2⟩
    obtain ⟨y, hy, h3, h4⟩ := h.has t h1
    have hyr := hd y hy
    have hyo := ho y hy
    have e : ((y.toNat : Nat) : Int) = y := by omega
    refine ⟨y.toNat, by rw [List.mem_range'_1]; omega, ?_⟩
    unfold inWay
    rw [e]
    simp only [Bool.and_eq_true, decide_eq_true_eq]
    exact ⟨hy, h3, by omega, by omega⟩
theorem rtr_l1 (l : List S32) (done out O : List Int) (used : Int) (i : Nat) (lo hi : Int) (hl : l.length ≤ 1000) (ho : out.length = l.length) (T : Nat) (hT : T ≤ 2000) (h1 : ∀ t : Nat, t < T → (List.range' 0 l.length).any (inWay l done out (t : Int) lo hi) = true) (h2 : (List.range' 0 l.length).any (inWay l done out (T : Int) lo hi) = false) (r : List Int × Int × Int)
    (K : Ev (fun k => kimberliteref01_Trays.l1 k l out (laidB l.length done) used O (i : Int) (T : Int) true lo hi) r) : ∀ (d t : Nat), T - t = d → t ≤ T → Ev (fun k => kimberliteref01_Trays.l1 k l out (laidB l.length done) used O (i : Int) (t : Int) false lo hi) r
  | 0, t, h, ht => by
    obtain rfl : t = T := by omega
    refine Ev.step (f := fun k => kimberliteref01_Trays.l2 k l out (laidB l.length done) used O (i : Int) (t : Int) true ((0 : Nat) : Int) lo hi) (fun k => by simp only [kimberliteref01_Trays.l1]; rw [if_neg (by simp)]; rfl) ?_
    refine rtr_l2 l done out O used i t lo hi hl ho r _ 0 true rfl ?_
    rw [Nat.sub_zero, h2]
    simpa using K
  | d + 1, t, h, ht => by
    have ih := rtr_l1 l done out O used i lo hi hl ho T hT h1 h2 r K d (t + 1) (by omega) (by omega)
    refine Ev.step (f := fun k => kimberliteref01_Trays.l2 k l out (laidB l.length done) used O (i : Int) (t : Int) true ((0 : Nat) : Int) lo hi) (fun k => by simp only [kimberliteref01_Trays.l1]; rw [if_neg (by simp)]; rfl) ?_
    refine rtr_l2 l done out O used i t lo hi hl ho r _ 0 true rfl ?_
    rw [Nat.sub_zero, h1 t (by omega)]
    simp only [Bool.not_true, Bool.and_false, Bool.false_eq_true, if_false]
    rw [wrap_succ (i := t) (n := T) (by omega) (by omega)]
    exact ih
theorem rtr_l0 (l : List S32) (hl : l.length ≤ 1000) (hg : ∀ s ∈ l, -1099511627776 ≤ s.f0 ∧ s.f0 < s.f1 ∧ s.f1 ≤ 1099511627776) : ∀ (d i : Nat), l.length - i = d → i ≤ l.length → Ev (fun k => kimberliteref01_Trays.l0 k l (trF l ((byL (kLo l) l.length).take i)).1 (laidB l.length ((byL (kLo l) l.length).take i)) ((trF l ((byL (kLo l) l.length).take i)).2.length : Int) (byL (kLo l) l.length) (i : Int)) ((trF l (byL (kLo l) l.length)).1, ((trF l (byL (kLo l) l.length)).2.length : Int), 0)
  | 0, i, h, hi => by
    have hlen := byL_len (kLo l) l.length
    rw [List.take_of_length_le (by omega)]
    exact Ev.step (f := fun _ => some ((trF l (byL (kLo l) l.length)).1, ((trF l (byL (kLo l) l.length)).2.length : Int), 0)) (fun k => by simp only [kimberliteref01_Trays.l0]; rw [if_neg (by omega)]) (Ev.now _)
  | d + 1, i, h, hi => by
    have hlen := byL_len (kLo l) l.length
    have hiO : i < (byL (kLo l) l.length).length := by omega
    have ih := rtr_l0 l hl hg d (i + 1) (by omega) (by omega)
    have hO : ∀ y ∈ byL (kLo l) l.length, 0 ≤ y ∧ y < (l.length : Int) := fun y hy => (byL_mem _ _ _).1 hy
    have hy := hO _ (List.getElem_mem hiO)
    have hst := trF_len l (byL (kLo l) l.length) i (by omega)
    have htr := tr_fold l (depF l l (0, 0)).1 (depth_spec l).1 _ (byL_sorted (kLo l) l.length) hO (fun y hy => (spL_good hg y (hO y hy).1 (hO y hy).2).2.1) i (by omega)
    have hord : ∀ y ∈ (byL (kLo l) l.length).take i, (spL l y).f0 ≤ (spL l ((byL (kLo l) l.length)[i])).f0 := fun y hy2 => by
      obtain ⟨j, hj, rfl⟩ := List.mem_iff_getElem.1 hy2
      rw [List.length_take] at hj
      rw [List.getElem_take]
      exact ord_lo l _ _ ((List.pairwise_iff_getElem.1 (byL_sorted (kLo l) l.length)) j i (by omega) hiO (by omega))
    have hway := way_iff l _ _ _ _ _ htr (fun y hy2 => hO y (List.mem_of_mem_take hy2)) (spL_good hg _ hy.1 hy.2).2.1 hord
    rw [← rdM _ i hiO] at hy hway
    rw [trF_succ l _ i hiO, List.take_succ_eq_append_getElem hiO, ← rdM _ i hiO, ← laidB_set _ _ _ hy.1 hy.2] at ih
    generalize laidE : laidB l.length ((byL (kLo l) l.length).take i) = laid at ih ⊢
    have hlaid : laid.length = l.length := by rw [← laidE]; simp [laidB]
    generalize trF l ((byL (kLo l) l.length).take i) = st at hst hway ih htr ⊢
    obtain ⟨out, ends⟩ := st
    simp only at hst hway ih htr ⊢
    refine Ev.step (f := fun k => kimberliteref01_Trays.l1 k l out laid (ends.length : Int) (byL (kLo l) l.length) (i : Int) ((0 : Nat) : Int) false (rd_T32 l (rd (byL (kLo l) l.length) (i : Int))).f0 (rd_T32 l (rd (byL (kLo l) l.length) (i : Int))).f1) (fun k => by simp only [kimberliteref01_Trays.l0]; rw [if_pos (by omega), if_pos (by omega), if_pos hy.1, if_pos hy.2]; rfl) ?_
    change Ev (fun k => kimberliteref01_Trays.l1 k l out laid (ends.length : Int) (byL (kLo l) l.length) (i : Int) ((0 : Nat) : Int) false (spL l (rd (byL (kLo l) l.length) (i : Int))).f0 (spL l (rd (byL (kLo l) l.length) (i : Int))).f1) _
    subst laidE
    have fin : ∀ T : Nat, T ≤ 2000 → (∀ t : Nat, t < T → (t < ends.length ∧ (spL l (rd (byL (kLo l) l.length) (i : Int))).f0 < ends.getD t 0)) → ¬ (T < ends.length ∧ (spL l (rd (byL (kLo l) l.length) (i : Int))).f0 < ends.getD T 0) →
        trS l (out, ends) (rd (byL (kLo l) l.length) (i : Int)) = (out.set (rd (byL (kLo l) l.length) (i : Int)).toNat (T : Int), (trS l (out, ends) (rd (byL (kLo l) l.length) (i : Int))).2) → ((trS l (out, ends) (rd (byL (kLo l) l.length) (i : Int))).2.length : Int) = mx (ends.length : Int) ((T : Int) + 1) → Ev (fun k => kimberliteref01_Trays.l1 k l out (laidB l.length ((byL (kLo l) l.length).take i)) (ends.length : Int) (byL (kLo l) l.length) (i : Int) ((0 : Nat) : Int) false (spL l (rd (byL (kLo l) l.length) (i : Int))).f0 (spL l (rd (byL (kLo l) l.length) (i : Int))).f1) ((trF l (byL (kLo l) l.length)).1, ((trF l (byL (kLo l) l.length)).2.length : Int), 0) := fun T hT t1 t2 e1 e2 => by
      refine rtr_l1 l _ out _ _ i _ _ hl hst.1 T hT (fun t ht => (hway t).2 (t1 t ht)) (by rw [← Bool.not_eq_true]; exact fun hc => t2 ((hway T).1 hc)) _ ?_ _ 0 rfl (by omega)
      refine Ev.step (fun k => ?_) ih
      simp only [kimberliteref01_Trays.l1]
      rw [if_pos trivial, if_pos (by omega), if_pos (by omega), if_pos hy.1, if_pos (by omega), if_pos (by omega), wrap_succ hiO (by omega), wrap_succ (i := T) (n := T + 1) (by omega) (by omega), e2, e1]
      rfl
    rcases idxS_cases (fun hi => decide (hi ≤ (spL l (rd (byL (kLo l) l.length) (i : Int))).f0)) ends 0 with ⟨e, hall⟩ | ⟨k, hk, e, hp⟩
    · have et : trS l (out, ends) (rd (byL (kLo l) l.length) (i : Int)) = (out.set (rd (byL (kLo l) l.length) (i : Int)).toNat (ends.length : Int), ends ++ [(spL l (rd (byL (kLo l) l.length) (i : Int))).f1]) := by
        unfold trS
        change (if idxS (fun hi => decide (hi ≤ (spL l (rd (byL (kLo l) l.length) (i : Int))).f0)) ends < 0 then _ else _) = _
        rw [e, if_pos (by decide)]
        rfl
      refine fin ends.length (by omega) (fun t ht => ⟨ht, by have := of_decide_eq_false (hall t ht); omega⟩) (by omega) (by rw [et]) (by rw [et]; simp only [List.length_append, List.length_singleton]; unfold mx; omega)
    · have et : trS l (out, ends) (rd (byL (kLo l) l.length) (i : Int)) = (out.set (rd (byL (kLo l) l.length) (i : Int)).toNat (k : Int), ends.set k (spL l (rd (byL (kLo l) l.length) (i : Int))).f1) := by
        unfold trS
        change (if idxS (fun hi => decide (hi ≤ (spL l (rd (byL (kLo l) l.length) (i : Int))).f0)) ends < 0 then _ else (out.set (rd (byL (kLo l) l.length) (i : Int)).toNat (idxS (fun hi => decide (hi ≤ (spL l (rd (byL (kLo l) l.length) (i : Int))).f0)) ends), ends.set (idxS (fun hi => decide (hi ≤ (spL l (rd (byL (kLo l) l.length) (i : Int))).f0)) ends).toNat _)) = _
        rw [if_neg (by omega), e, Int.toNat_natCast]
        rfl
      have hp' := of_decide_eq_true hp
      have hfirst : ∀ t : Nat, t < k → (spL l (rd (byL (kLo l) l.length) (i : Int))).f0 < ends.getD t 0 := fun t ht => by
        have := idxS_least _ ends 0 k e t ht
        have := of_decide_eq_false this
        omega
      refine fin k (by omega) (fun t ht => ⟨by omega, hfirst t ht⟩) (fun hc => by omega) (by rw [et]) (by rw [et]; simp only [List.length_set]; unfold mx; omega)
theorem refTrays_ev (l : List S32) : Ev (fun k => kimberliteref01_Trays.f k l) (trR l) := by
  unfold kimberliteref01_Trays.f trR
  refine Ev.bind (refList_ev l) ?_
  by_cases h : listR l = 0
  · have hg := listR_good h
    simp only [if_pos h]
    have e0 : (0 : Int) ≤ (l.length : Int) := by omega
    simp only [if_pos e0, Int.toNat_natCast, if_pos (show l.length ≤ 35184372088832 by omega), if_pos (show l.length ≤ 281474976710656 by omega)]
    refine Ev.bind (sorted_ev l false (by omega)) ?_
    rw [kB_false]
    have := rtr_l0 l (by omega) hg.2 _ 0 rfl (by omega)
    have eb : laidB l.length [] = List.replicate l.length false := by
      refine List.ext_getElem (by simp [laidB]) (fun i h1 h2 => ?_)
      simp [laidB]
    rw [List.take_zero, eb] at this
    exact this
  · simp only [if_neg h]
    exact Ev.now _
end Go.Proofs.Ytningpmoojnomaa.Pr
end
section
namespace Go.Proofs.Ytningpmoojnomaa.Pr
open Go.RowKit Go.Proofs.YtningpmoojnomaaW.PrintWords Go.Proofs.YtningpmoojnomaaW.PrintLast Go.Proofs.YtningpmoojnomaaW.PrintMore
attribute [local go_sem] max2_int min2_int max_two min_two max_three min_three max_four min_four   -- for this text's walks alone
set_option linter.unusedVariables false
set_option linter.unusedSimpArgs false
def span_Stab.f (l0 : List (S32)) : Option (List Int × Int) := (span_stabbed.f l0).bind fun bt390 => (some (bt390.1, bt390.2.2))
set_option maxHeartbeats 8000000 in
set_option maxRecDepth 100000 in
theorem span_Stab.calls (A0 : Option Addr) (c0 : Nat) (l0 : List (S32)) (r1 : List Int) (r2 : Int) (w : World) (hr0 : Kd.C k32 w A0 l0.length l0) (hc0 : l0.length ≤ c0) (h : span_Stab.f l0 = some (r1, r2)) :
 Calls Try.prog 42 #[.slice A0 l0.length c0] w fun e w' => ∃ v0_ : Value, e = .returned (.tuple #[v0_, .int .i64 r2]) ∧ Kd.R (Kd.int .i64) 3 w' w.heap.size (fun _ => True) v0_ r1 ∧ Below w.heap.size w w' := by
 have HR0 := Aside0.mk hr0
 have HC0 := Aside0.mk hc0
 clear hr0 hc0
 have HB := Aside0.mk (Below.refl w.heap.size w)
 have H : ((span_stabbed.f l0).bind fun bt390 => (some (bt390.1, bt390.2.2))) = some (r1, r2) := h
 clear h
 replace H := Option.bind_eq_some_iff.mp H
 obtain ⟨⟨t390, t391, t392⟩, A20, H⟩ := H
 replace H : (some (t390, t392)) = some (r1, r2) := H
 have A2 := Aside0.mk A20
 clear A20
 simp only [Option.some.injEq, Prod.mk.injEq] at H
 obtain ⟨rfl, rfl⟩ := H
 go_enter Try.func42, Try.ntmps42
 go_wp2_with (first | ((with_reducible refine gate_callee (f := 79) rfl ?_); refine goesL_ (some 9) rfl rfl Try.func79 (by kernel_rfl) rfl #[.slice A0 l0.length c0] rfl (by (try simp only [List.map_toArray, List.map_cons, List.map_nil]); first | done | rfl | (simp only [List.length_drop, List.length_take]; rfl)) ?_; (with_reducible refine (span_stabbed.calls _ _ l0 t390 t391 t392 _ ?side1 ?side2 A2.out).mono ?_); (case side1 => repeat (first | exact HR0.out | (with_reducible refine Kd.C_alloc ?_ _) | (with_reducible refine Kd.C_drewN ?_ _) | (with_reducible refine Kd.C_drew ?_))); (case side2 => exact HC0.out); rintro e w3 ⟨v393, v395, rfl, ho0, ho1, hb⟩; refine ⟨_, rfl, ?_⟩; have n0_ := Aside0.mk (Kd.R_lower ho0 (below_size (by repeat (first | (with_reducible first | exact HB.out | apply below_alloc | apply pw_below_drewN | apply below_drew1) | exact HB.out)))); have n1_ := Aside0.mk (Kd.R_lower ho1 (below_size (by repeat (first | (with_reducible first | exact HB.out | apply below_alloc | apply pw_below_drewN | apply below_drew1) | exact HB.out)))); have n2_ := Aside0.mk (below_step (by repeat (first | (with_reducible first | exact HB.out | apply below_alloc | apply pw_below_drewN | apply below_drew1) | exact HB.out)) hb); clear HB; have HO394 := n0_; have HO396 := n1_; have HB := n2_; clear n0_ n1_ n2_; (try clear hb); (try clear hb2); (try clear hk); (try clear hi); (try clear ho0); (try clear ho1)))
 go_ret2
 exact ⟨_, by first | rfl | (simp [errW_none, errW_some] <;> rfl) | (simp [*, errW_none, errW_some] <;> rfl), by (with_reducible repeat (first | apply Kd.R_alloc | apply Kd.R_drewN | apply Kd.R_drew)); exact Kd.R_mono HO394.out (fun _ hk => trivial), by repeat (first | (with_reducible first | exact HB.out | apply below_alloc | apply pw_below_drewN | apply below_drew1) | exact HB.out)⟩
def span_Disjoint.f (l0 : List (S32)) : Option (List Int × Int) := (span_stabbed.f l0).bind fun bt397 => (some (bt397.2.1, bt397.2.2))
set_option maxHeartbeats 8000000 in
set_option maxRecDepth 100000 in
theorem span_Disjoint.calls (A0 : Option Addr) (c0 : Nat) (l0 : List (S32)) (r1 : List Int) (r2 : Int) (w : World) (hr0 : Kd.C k32 w A0 l0.length l0) (hc0 : l0.length ≤ c0) (h : span_Disjoint.f l0 = some (r1, r2)) :
 Calls Try.prog 43 #[.slice A0 l0.length c0] w fun e w' => ∃ v0_ : Value, e = .returned (.tuple #[v0_, .int .i64 r2]) ∧ Kd.R (Kd.int .i64) 3 w' w.heap.size (fun _ => True) v0_ r1 ∧ Below w.heap.size w w' := by
 have HR0 := Aside0.mk hr0
 have HC0 := Aside0.mk hc0
 clear hr0 hc0
 have HB := Aside0.mk (Below.refl w.heap.size w)
 have H : ((span_stabbed.f l0).bind fun bt397 => (some (bt397.2.1, bt397.2.2))) = some (r1, r2) := h
 clear h
 replace H := Option.bind_eq_some_iff.mp H
 obtain ⟨⟨t397, t398, t399⟩, A20, H⟩ := H
 replace H : (some (t398, t399)) = some (r1, r2) := H
 have A2 := Aside0.mk A20
 clear A20
 simp only [Option.some.injEq, Prod.mk.injEq] at H
 obtain ⟨rfl, rfl⟩ := H
 go_enter Try.func43, Try.ntmps43
 go_wp2_with (first | ((with_reducible refine gate_callee (f := 79) rfl ?_); refine goesL_ (some 9) rfl rfl Try.func79 (by kernel_rfl) rfl #[.slice A0 l0.length c0] rfl (by (try simp only [List.map_toArray, List.map_cons, List.map_nil]); first | done | rfl | (simp only [List.length_drop, List.length_take]; rfl)) ?_; (with_reducible refine (span_stabbed.calls _ _ l0 t397 t398 t399 _ ?side1 ?side2 A2.out).mono ?_); (case side1 => repeat (first | exact HR0.out | (with_reducible refine Kd.C_alloc ?_ _) | (with_reducible refine Kd.C_drewN ?_ _) | (with_reducible refine Kd.C_drew ?_))); (case side2 => exact HC0.out); rintro e w3 ⟨v400, v402, rfl, ho0, ho1, hb⟩; refine ⟨_, rfl, ?_⟩; have n0_ := Aside0.mk (Kd.R_lower ho0 (below_size (by repeat (first | (with_reducible first | exact HB.out | apply below_alloc | apply pw_below_drewN | apply below_drew1) | exact HB.out)))); have n1_ := Aside0.mk (Kd.R_lower ho1 (below_size (by repeat (first | (with_reducible first | exact HB.out | apply below_alloc | apply pw_below_drewN | apply below_drew1) | exact HB.out)))); have n2_ := Aside0.mk (below_step (by repeat (first | (with_reducible first | exact HB.out | apply below_alloc | apply pw_below_drewN | apply below_drew1) | exact HB.out)) hb); clear HB; have HO401 := n0_; have HO403 := n1_; have HB := n2_; clear n0_ n1_ n2_; (try clear hb); (try clear hb2); (try clear hk); (try clear hi); (try clear ho0); (try clear ho1)))
 go_ret2
 exact ⟨_, by first | rfl | (simp [errW_none, errW_some] <;> rfl) | (simp [*, errW_none, errW_some] <;> rfl), by (with_reducible repeat (first | apply Kd.R_alloc | apply Kd.R_drewN | apply Kd.R_drew)); exact Kd.R_mono HO403.out (fun _ hk => trivial), by repeat (first | (with_reducible first | exact HB.out | apply below_alloc | apply pw_below_drewN | apply below_drew1) | exact HB.out)⟩
end Go.Proofs.Ytningpmoojnomaa.Pr
end
