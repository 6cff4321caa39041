/- What the proof of the law needs, trimmed and merged by wip/pack.py out of the texts YtingjpcgehgiiaaPrx3, YtingjpcgehgiiaaPrx20, YtingjpcgehgiiaaMks, YtingjpcgehgiiaaExtSpl, YtingjpcgehgiiaaExtAt, YtingjpcgehgiiaaSpl, YtingjpcgehgiiaaSpq, YtingjpcgehgiiaaCrv, YtingjpcgehgiiaaPrx4. No condition. -/
import Derived.Test.YtingjpcgehgiiaaKCurveMakes0
import Derived.Test.YtingjpcgehgiiaaKCurveMakes1
section
namespace Go.Proofs.Ytingjpcgehgiiaa.Pr
open Go.RowKit Go.Proofs.YtingjpcgehgiiaaW.PrintWords Go.Proofs.YtingjpcgehgiiaaW.PrintLast Go.Proofs.YtingjpcgehgiiaaW.PrintMore
attribute [local go_sem] max2_int min2_int max_two min_two max_three min_three max_four min_four   -- for this text's walks alone
set_option linter.unusedVariables false
set_option linter.unusedSimpArgs false
def slices_BinarySearch_int_int.l0 : Nat → List Int → Int → Int → Int → Int → Option (Int × Bool)
 | 0, _, _, _, _, _ => none
 | k + 1, x0, x1, x6, x7, x8 => if x7 < x8 then (if 0 ≤ (wrap64 ((IntKind.u64.wrap (wrap64 (x7 + x8))) / 2)) then (if (wrap64 ((IntKind.u64.wrap (wrap64 (x7 + x8))) / 2)) < (x0.length : Int) then ((cmp_Less_int.f (rd x0 (wrap64 ((IntKind.u64.wrap (wrap64 (x7 + x8))) / 2))) x1).bind fun t123 => (if t123 = true then (slices_BinarySearch_int_int.l0 k x0 x1 x6 (wrap64 ((wrap64 ((IntKind.u64.wrap (wrap64 (x7 + x8))) / 2)) + 1)) x8) else (slices_BinarySearch_int_int.l0 k x0 x1 x6 x7 (wrap64 ((IntKind.u64.wrap (wrap64 (x7 + x8))) / 2))))) else (none)) else (none)) else (if x7 < x6 then (if 0 ≤ x7 then (if x7 < (x0.length : Int) then (if (rd x0 x7) = x1 then (some (x7, true)) else ((slices_isNaN_int.f (rd x0 x7)).bind fun t126 => (if t126 = true then ((slices_isNaN_int.f x1).bind fun t127 => (some (x7, t127))) else (some (x7, false))))) else (none)) else (none)) else (some (x7, false)))
def slices_BinarySearch_int_int.f (k : Nat) (l0 : List Int) (a1 : Int) : Option (Int × Bool) := slices_BinarySearch_int_int.l0 k l0 a1 (l0.length : Int) 0 (l0.length : Int)
theorem slices_BinarySearch_int_int.mono_l : ∀ k, (∀ y0 y1 y2 y3 y4, LeO (slices_BinarySearch_int_int.l0 k y0 y1 y2 y3 y4) (slices_BinarySearch_int_int.l0 (k + 1) y0 y1 y2 y3 y4))
 | 0 => fun _ _ _ _ _ r h => by simp [slices_BinarySearch_int_int.l0] at h
 | k + 1 => by
  have ih0 := slices_BinarySearch_int_int.mono_l k
  · intro y0 y1 y2 y3 y4; unfold slices_BinarySearch_int_int.l0
    repeat' first
    | (with_reducible exact ih0 _ _ _ _ _)
    | (with_reducible exact LeO.refl _)
    | (with_reducible exact LeO.none _)
    | (with_reducible refine LeO.ite ?_ ?_)
    | (with_reducible refine LeO.bind ?_ (fun _ => ?_))
    | exact ih0 _ _ _ _ _
    | exact LeO.none _
    | refine LeO.ite ?_ ?_
    | refine LeO.bind ?_ (fun _ => ?_)
theorem slices_BinarySearch_int_int.mono : ∀ a0 a1 k, LeO (slices_BinarySearch_int_int.f k a0 a1) (slices_BinarySearch_int_int.f (k + 1) a0 a1) := by
 intro a0 a1 k; have ih0 := slices_BinarySearch_int_int.mono_l k; unfold slices_BinarySearch_int_int.f
 repeat' first
  | (with_reducible exact ih0 _ _ _ _ _)
  | (with_reducible exact LeO.refl _)
  | (with_reducible exact LeO.none _)
  | (with_reducible refine LeO.ite ?_ ?_)
  | (with_reducible refine LeO.bind ?_ (fun _ => ?_))
  | exact ih0 _ _ _ _ _
  | exact LeO.none _
  | refine LeO.ite ?_ ?_
  | refine LeO.bind ?_ (fun _ => ?_)
set_option maxHeartbeats 8000000 in
set_option maxRecDepth 100000 in
theorem slices_BinarySearch_int_int.calls (k : Nat) (A0 : Option Addr) (c0 : Nat) (l0 : List Int) (a1 : Int) (r1 : Int) (r2 : Bool) (w : World) (hr0 : Kd.C (Kd.int .i64) w A0 l0.length l0) (hc0 : l0.length ≤ c0) (h : slices_BinarySearch_int_int.f k l0 a1 = some (r1, r2)) :
 Calls Try.prog 86 #[.slice A0 l0.length c0, .int .i64 a1] w fun e w' => e = .returned (.tuple #[.int .i64 r1, .bool r2]) ∧ Drawn0 w w' := by
 have HR0 := Aside0.mk hr0; have HC0 := Aside0.mk hc0; clear hr0 hc0; have H : (slices_BinarySearch_int_int.l0 k l0 a1 (l0.length : Int) 0 (l0.length : Int)) = some (r1, r2) := h; clear h; have H' := Aside0.mk H; clear H; go_enter Try.func86, Try.ntmps86
 go_wp2
 go_loopg [7, 8] k (fun kq v7 v8 w' => ∃ (x7_1 : Int) (x8_1 : Int), v7 = .int .i64 x7_1 ∧ v8 = .int .i64 x8_1 ∧ Aside0 (slices_BinarySearch_int_int.l0 kq l0 a1 (l0.length : Int) x7_1 x8_1 = some (r1, r2)) ∧ Aside0 (kq ≤ k) ∧ Drawn0 w w')
 case atStart => exact ⟨(0), ((l0.length : Int)), (by first | rfl | (simp; done) | (simp [*]; done)), (by first | rfl | (simp; done) | (simp [*]; done)), H', ⟨Nat.le_refl _⟩, by repeat (first | exact Drawn0.refl _ | apply Drawn0.step)⟩
 case round =>
  clear H'; obtain ⟨x7_1, x8_1, rfl, rfl, HA, HK1, ⟨m1, rfl⟩⟩ := hrel
  cases gk with
  | zero => exact absurd HA.out (by simp [slices_BinarySearch_int_int.l0])
  | succ k1 =>
   have H := HA.out; clear HA; simp only [slices_BinarySearch_int_int.l0] at H
   by_cases c3 : x7_1 < x8_1
   · rw [if_pos c3] at H; have c3b0 : decide (x7_1 < x8_1) = true := decide_eq_true c3; clear c3; obtain ⟨ji4, hji4⟩ : ∃ j_ : Int, (wrap64 ((IntKind.u64.wrap (wrap64 (x7_1 + x8_1))) / 2)) = j_ := ⟨_, rfl⟩; replace H : (if 0 ≤ (ji4) then (if (ji4) < (l0.length : Int) then ((cmp_Less_int.f (rd l0 (ji4)) a1).bind fun t123 => (if t123 = true then (slices_BinarySearch_int_int.l0 k1 l0 a1 (l0.length : Int) (wrap64 ((ji4) + 1)) x8_1) else (slices_BinarySearch_int_int.l0 k1 l0 a1 (l0.length : Int) x7_1 ji4))) else (none)) else (none)) = some (r1, r2) := by first | (rw [hji4] at H; exact H) | (simp only [hji4] at H ⊢; exact H)
     have hji4w : (IntKind.i64.wrap ((IntKind.u64.wrap (wrap64 (x7_1 + x8_1))) / 2)) = ji4 := (i64_w _).trans hji4
     by_cases c5 : 0 ≤ (ji4)
     · rw [if_pos c5] at H; have c5b0 : decide (0 ≤ (ji4)) = true := decide_eq_true c5; clear c5
       by_cases c6 : (ji4) < (l0.length : Int)
       · rw [if_pos c6] at H; have c6b0 : decide ((ji4) < (l0.length : Int)) = true := decide_eq_true c6; clear c6; replace H := Option.bind_eq_some_iff.mp H; obtain ⟨t123, A70, H⟩ := H; replace H : (if t123 = true then (slices_BinarySearch_int_int.l0 k1 l0 a1 (l0.length : Int) (wrap64 ((ji4) + 1)) x8_1) else (slices_BinarySearch_int_int.l0 k1 l0 a1 (l0.length : Int) x7_1 ji4)) = some (r1, r2) := H; have A7 := Aside0.mk A70; clear A70
         by_cases c8 : t123 = true
         · subst c8; replace H : (slices_BinarySearch_int_int.l0 k1 l0 a1 (l0.length : Int) (wrap64 ((ji4) + 1)) x8_1) = some (r1, r2) := by rw [if_pos rfl] at H; exact H
           have H' := Aside0.mk H; clear H; have p122 : 0 ≤ ((ji4) : Int) := of_decide_eq_true (by first | (with_reducible assumption) | assumption); have q122 : (ji4) < (l0.length : Int) := of_decide_eq_true (by first | (with_reducible assumption) | assumption); obtain ⟨ad122, e122, hx122_0⟩ := Kd.at_int HR0.out (ji4) p122 q122
           cases e122
           replace p122 := eq_true p122; replace q122 := eq_true q122; go_wp2_with (first | ((with_reducible refine gate_callee (f := 82) rfl ?_); refine goesL_ (some 27) rfl rfl Try.func82 (by kernel_rfl) rfl #[.int .i64 (rd l0 (ji4)), .int .i64 a1] rfl (by (try simp only [List.map_toArray, List.map_cons, List.map_nil]); first | done | (simp only [hji4]; rfl) | rfl | (simp only [List.length_drop, List.length_take]; rfl)) ?_; (with_reducible refine (cmp_Less_int.calls (rd l0 (ji4)) a1 true _ A7.out).mono ?_); rintro e w' ⟨rfl, ⟨nd, rfl⟩⟩; refine ⟨_, rfl, ?_⟩))
           go_roundg k1
           case measure => have := HK1.out; omega
           case rel => exact ⟨(wrap64 ((ji4) + 1)), (x8_1), (by first | rfl | (simp; done) | (simp only [← hji4] <;> (first | rfl | simp)) | (simp [*]; done)), (by first | rfl | (simp; done) | (simp [*]; done)), H', ⟨by have := HK1.out; omega⟩, by repeat (first | exact Drawn0.refl _ | apply Drawn0.step)⟩
         · replace c8 := Bool.eq_false_iff.mpr c8; subst c8; replace H : (slices_BinarySearch_int_int.l0 k1 l0 a1 (l0.length : Int) x7_1 ji4) = some (r1, r2) := by rw [if_neg (show ¬ (false = true) by decide)] at H; exact H
           have H' := Aside0.mk H; clear H; have p122 : 0 ≤ ((ji4) : Int) := of_decide_eq_true (by first | (with_reducible assumption) | assumption); have q122 : (ji4) < (l0.length : Int) := of_decide_eq_true (by first | (with_reducible assumption) | assumption); obtain ⟨ad122, e122, hx122_0⟩ := Kd.at_int HR0.out (ji4) p122 q122
           cases e122
           replace p122 := eq_true p122; replace q122 := eq_true q122; go_wp2_with (first | ((with_reducible refine gate_callee (f := 82) rfl ?_); refine goesL_ (some 27) rfl rfl Try.func82 (by kernel_rfl) rfl #[.int .i64 (rd l0 (ji4)), .int .i64 a1] rfl (by (try simp only [List.map_toArray, List.map_cons, List.map_nil]); first | done | (simp only [hji4]; rfl) | rfl | (simp only [List.length_drop, List.length_take]; rfl)) ?_; (with_reducible refine (cmp_Less_int.calls (rd l0 (ji4)) a1 false _ A7.out).mono ?_); rintro e w' ⟨rfl, ⟨nd, rfl⟩⟩; refine ⟨_, rfl, ?_⟩))
           go_roundg k1
           case measure => have := HK1.out; omega
           case rel => exact ⟨(x7_1), (ji4), (by first | rfl | (simp; done) | (simp [*]; done)), (by first | rfl | (simp; done) | (simp only [← hji4] <;> (first | rfl | simp)) | (simp [*]; done)), H', ⟨by have := HK1.out; omega⟩, by repeat (first | exact Drawn0.refl _ | apply Drawn0.step)⟩
       · rw [if_neg c6] at H; exact absurd H (by simp)
     · rw [if_neg c5] at H; exact absurd H (by simp)
   · rw [if_neg c3] at H; have c3b0 : decide (x7_1 < x8_1) = false := decide_eq_false c3; clear c3
     by_cases c9 : x7_1 < (l0.length : Int)
     · rw [if_pos c9] at H; have c9b0 : decide (x7_1 < (l0.length : Int)) = true := decide_eq_true c9; clear c9
       by_cases c10 : 0 ≤ x7_1
       · rw [if_pos c10] at H; have c10b0 : decide (0 ≤ x7_1) = true := decide_eq_true c10; clear c10
         by_cases c11 : x7_1 < (l0.length : Int)
         · rw [if_pos c11] at H; have c11b0 : decide (x7_1 < (l0.length : Int)) = true := decide_eq_true c11; clear c11
           by_cases c12 : (rd l0 x7_1) = a1
           · rw [if_pos c12] at H; have c12b0 : ((rd l0 x7_1) == a1) = true := beq_iff_eq.mpr c12; have c12b1 : ((rd l0 x7_1) != a1) = false := bne_eq_false_iff_eq.mpr c12; clear c12; simp only [Option.some.injEq, Prod.mk.injEq] at H; obtain ⟨rfl, rfl⟩ := H; have p124 : 0 ≤ (x7_1 : Int) := of_decide_eq_true (by first | (with_reducible assumption) | assumption); have q124 : x7_1 < (l0.length : Int) := of_decide_eq_true (by first | (with_reducible assumption) | assumption); obtain ⟨ad124, e124, hx124_0⟩ := Kd.at_int HR0.out x7_1 p124 q124
             cases e124
             replace p124 := eq_true p124; replace q124 := eq_true q124; go_wp2
             go_ret2
             exact ⟨by first | rfl | (simp; done) | (simp [*]; done), by repeat (first | exact Drawn0.refl _ | apply Drawn0.step)⟩
           · rw [if_neg c12] at H; have c12b0 : ((rd l0 x7_1) == a1) = false := beq_eq_false_iff_ne.mpr c12; have c12b1 : ((rd l0 x7_1) != a1) = true := bne_iff_ne.mpr c12; replace H := Option.bind_eq_some_iff.mp H; obtain ⟨t126, A130, H⟩ := H; replace H : (if t126 = true then ((slices_isNaN_int.f a1).bind fun t127 => (some (x7_1, t127))) else (some (x7_1, false))) = some (r1, r2) := H; have A13 := Aside0.mk A130; clear A130
             by_cases c14 : t126 = true
             · subst c14; replace H : ((slices_isNaN_int.f a1).bind fun t127 => (some (x7_1, t127))) = some (r1, r2) := by rw [if_pos rfl] at H; exact H
               replace H := Option.bind_eq_some_iff.mp H; obtain ⟨t127, A150, H⟩ := H; replace H : (some (x7_1, t127)) = some (r1, r2) := H; have A15 := Aside0.mk A150; clear A150; simp only [Option.some.injEq, Prod.mk.injEq] at H; obtain ⟨rfl, rfl⟩ := H; have p124 : 0 ≤ (x7_1 : Int) := of_decide_eq_true (by first | (with_reducible assumption) | assumption); have q124 : x7_1 < (l0.length : Int) := of_decide_eq_true (by first | (with_reducible assumption) | assumption); obtain ⟨ad124, e124, hx124_0⟩ := Kd.at_int HR0.out x7_1 p124 q124
               cases e124
               replace p124 := eq_true p124; replace q124 := eq_true q124; have p125 : 0 ≤ (x7_1 : Int) := of_decide_eq_true (by first | (with_reducible assumption) | assumption); have q125 : x7_1 < (l0.length : Int) := of_decide_eq_true (by first | (with_reducible assumption) | assumption); obtain ⟨ad125, e125, hx125_0⟩ := Kd.at_int HR0.out x7_1 p125 q125; obtain rfl : ad124 = ad125 := (by injection e125); replace p125 := eq_true p125; replace q125 := eq_true q125; go_wp2_with (first | (go_at_call 99; (with_reducible refine (slices_isNaN_int.calls (rd l0 x7_1) true _ A13.out).mono ?_); rintro e w' ⟨rfl, ⟨nd, rfl⟩⟩) | (go_at_call 99; (with_reducible refine (slices_isNaN_int.calls a1 t127 _ A15.out).mono ?_); rintro e w' ⟨rfl, ⟨nd, rfl⟩⟩))
               go_ret2
               exact ⟨by first | rfl | (simp; done) | (simp [*]; done), by repeat (first | exact Drawn0.refl _ | apply Drawn0.step)⟩
             · replace c14 := Bool.eq_false_iff.mpr c14; subst c14; replace H : (some (x7_1, false)) = some (r1, r2) := by rw [if_neg (show ¬ (false = true) by decide)] at H; exact H
               simp only [Option.some.injEq, Prod.mk.injEq] at H; obtain ⟨rfl, rfl⟩ := H; have p124 : 0 ≤ (x7_1 : Int) := of_decide_eq_true (by first | (with_reducible assumption) | assumption); have q124 : x7_1 < (l0.length : Int) := of_decide_eq_true (by first | (with_reducible assumption) | assumption); obtain ⟨ad124, e124, hx124_0⟩ := Kd.at_int HR0.out x7_1 p124 q124
               cases e124
               replace p124 := eq_true p124; replace q124 := eq_true q124; have p125 : 0 ≤ (x7_1 : Int) := of_decide_eq_true (by first | (with_reducible assumption) | assumption); have q125 : x7_1 < (l0.length : Int) := of_decide_eq_true (by first | (with_reducible assumption) | assumption); obtain ⟨ad125, e125, hx125_0⟩ := Kd.at_int HR0.out x7_1 p125 q125; obtain rfl : ad124 = ad125 := (by injection e125); replace p125 := eq_true p125; replace q125 := eq_true q125; go_wp2_with (first | (go_at_call 99; (with_reducible refine (slices_isNaN_int.calls (rd l0 x7_1) false _ A13.out).mono ?_); rintro e w' ⟨rfl, ⟨nd, rfl⟩⟩))
               go_ret2
               exact ⟨by first | rfl | (simp; done) | (simp [*]; done), by repeat (first | exact Drawn0.refl _ | apply Drawn0.step)⟩
         · rw [if_neg c11] at H; exact absurd H (by simp)
       · rw [if_neg c10] at H; exact absurd H (by simp)
     · rw [if_neg c9] at H; have c9b0 : decide (x7_1 < (l0.length : Int)) = false := decide_eq_false c9; clear c9; simp only [Option.some.injEq, Prod.mk.injEq] at H; obtain ⟨rfl, rfl⟩ := H; go_wp2
       go_ret2
       exact ⟨by first | rfl | (simp; done) | (simp [*]; done), by repeat (first | exact Drawn0.refl _ | apply Drawn0.step)⟩
def kimberlitelaw03_alike.f (k : Nat) (a0_0 : Int) (a0_1 : Int) (l0_2 : List Int) (a1_0 : Int) (a1_1 : Int) (l1_2 : List Int) : Option (Bool) := if a0_0 = a1_0 then (if a0_1 = a1_1 then ((kimberlitelaw03_same.f k l0_2 l1_2).bind fun t133 => (some t133)) else (some false)) else (some false)
theorem kimberlitelaw03_alike.mono : ∀ a0 a1 a2 a3 a4 a5 k, LeO (kimberlitelaw03_alike.f k a0 a1 a2 a3 a4 a5) (kimberlitelaw03_alike.f (k + 1) a0 a1 a2 a3 a4 a5) := by
 intro a0 a1 a2 a3 a4 a5 k; unfold kimberlitelaw03_alike.f
 repeat' first
  | (with_reducible exact kimberlitelaw03_same.mono _ _ _)
  | (with_reducible exact LeO.refl _)
  | (with_reducible exact LeO.none _)
  | (with_reducible refine LeO.ite ?_ ?_)
  | (with_reducible refine LeO.bind ?_ (fun _ => ?_))
  | exact kimberlitelaw03_same.mono _ _ _
  | exact LeO.none _
  | refine LeO.ite ?_ ?_
  | refine LeO.bind ?_ (fun _ => ?_)
set_option maxHeartbeats 8000000 in
set_option maxRecDepth 100000 in
theorem kimberlitelaw03_alike.calls (k : Nat) (a0_0 : Int) (a0_1 : Int) (A0_2 : Option Addr) (c0_2 : Nat) (l0_2 : List Int) (a1_0 : Int) (a1_1 : Int) (A1_2 : Option Addr) (c1_2 : Nat) (l1_2 : List Int) (r : Bool) (w : World) (hr0_2 : Kd.C (Kd.int .i64) w A0_2 l0_2.length l0_2) (hc0_2 : l0_2.length ≤ c0_2) (hr1_2 : Kd.C (Kd.int .i64) w A1_2 l1_2.length l1_2) (hc1_2 : l1_2.length ≤ c1_2) (h : kimberlitelaw03_alike.f k a0_0 a0_1 l0_2 a1_0 a1_1 l1_2 = some r) :
 Calls Try.prog 15 #[.agg #[.int .i64 a0_0, .int .i64 a0_1, .slice A0_2 l0_2.length c0_2], .agg #[.int .i64 a1_0, .int .i64 a1_1, .slice A1_2 l1_2.length c1_2]] w fun e w' => e = .returned (.bool r) ∧ Below w.heap.size w w' := by
 have hu24 := Try.underlying24; have HR0_2 := Aside0.mk hr0_2; have HC0_2 := Aside0.mk hc0_2; clear hr0_2 hc0_2; have HR1_2 := Aside0.mk hr1_2; have HC1_2 := Aside0.mk hc1_2; clear hr1_2 hc1_2; have HB := Aside0.mk (Below.refl w.heap.size w); have H : (if a0_0 = a1_0 then (if a0_1 = a1_1 then ((kimberlitelaw03_same.f k l0_2 l1_2).bind fun t133 => (some t133)) else (some false)) else (some false)) = some r := h; clear h
 by_cases c3 : a0_0 = a1_0
 · rw [if_pos c3] at H; have c3b0 : (a0_0 == a1_0) = true := beq_iff_eq.mpr c3; have c3b1 : (a0_0 != a1_0) = false := bne_eq_false_iff_eq.mpr c3; clear c3
   by_cases c4 : a0_1 = a1_1
   · rw [if_pos c4] at H; have c4b0 : (a0_1 == a1_1) = true := beq_iff_eq.mpr c4; have c4b1 : (a0_1 != a1_1) = false := bne_eq_false_iff_eq.mpr c4; clear c4; replace H := Option.bind_eq_some_iff.mp H; obtain ⟨t133, A50, H⟩ := H; replace H : (some t133) = some r := H; have A5 := Aside0.mk A50; clear A50; obtain rfl := Option.some.inj H; go_enter Try.func15, Try.ntmps15
     go_wp2_with (first | ((with_reducible refine gate_dst (N := 2) rfl ?_); refine box_event ?hg (N := 2) ?hd (cs := #[.int .i64 a0_0, .int .i64 a0_1, .slice A0_2 l0_2.length c0_2]) (t := 24) ?hr ?_; (case hd => rfl); (case hg => rfl); (case hr => first | (go_simp; done) | (go_simp; rfl)); intro gb131 hg w6 hbox hb; have BK131 := Aside0.mk (hbox); have GW131 := Aside0.mk ((by rw [hg]; exact (below_size (nC HB)) : w.heap.size ≤ gb131)); have GE131 := Aside0.mk ((by rw [hg]; exact (below_size (nC HB)) : w.heap.size ≤ gb131)); replace HB := Aside0.mk (below_step (nC HB) hb); clear hb hbox hg) | ((with_reducible refine gate_dst (N := 3) rfl ?_); refine box_event ?hg (N := 3) ?hd (cs := #[.int .i64 a1_0, .int .i64 a1_1, .slice A1_2 l1_2.length c1_2]) (t := 24) ?hr ?_; (case hd => rfl); (case hg => rfl); (case hr => first | (go_simp; done) | (go_simp; rfl)); intro gb132 hg w7 hbox hb; have BK132 := Aside0.mk (hbox); have GW132 := Aside0.mk ((by rw [hg]; exact (below_size (nC HB)) : w.heap.size ≤ gb132)); have GE132 := Aside0.mk ((by rw [hg]; exact (below_size (nC HB)) : w.heap.size ≤ gb132)); replace HB := Aside0.mk (below_step (nC HB) hb); have NB131_132 := Aside0.mk ((by rw [hg]; exact Nat.ne_of_lt (blk_lt (nK BK131)) : gb131 ≠ gb132)); have NB132_131 := Aside0.mk ((by rw [hg]; exact Nat.ne_of_gt (blk_lt (nK BK131)) : gb132 ≠ gb131)); replace BK131 := Aside0.mk (nB BK131 hb); clear hb hbox hg; have hnb8 := NB131_132.out; have hnc8 := NB132_131.out; obtain ⟨hcz9_0, hcz9_1, hcz9_2, hfz9_0, hfz9_1, hfz9_2⟩ := cz3 BK131; obtain ⟨hcz10_0, hcz10_1, hcz10_2, hfz10_0, hfz10_1, hfz10_2⟩ := cz3 BK132) | (go_at_call 24; (with_reducible refine (kimberlitelaw03_same.calls k _ _ l0_2 _ _ l1_2 t133 _ ?side1 ?side2 ?side3 ?side4 A5.out).mono ?_); (case side1 => exact nS HR0_2 HB); (case side2 => exact HC0_2.out); (case side3 => exact nS HR1_2 HB); (case side4 => exact HC1_2.out); rintro e w' ⟨rfl, ⟨nd, rfl⟩⟩))
     go_ret
     exact ⟨by first | rfl | (simp [errW_none, errW_some] <;> rfl) | (simp [*, errW_none, errW_some] <;> rfl), nC HB⟩
   · rw [if_neg c4] at H; have c4b0 : (a0_1 == a1_1) = false := beq_eq_false_iff_ne.mpr c4; have c4b1 : (a0_1 != a1_1) = true := bne_iff_ne.mpr c4; obtain rfl := Option.some.inj H; go_enter Try.func15, Try.ntmps15
     go_wp2_with (first | ((with_reducible refine gate_dst (N := 2) rfl ?_); refine box_event ?hg (N := 2) ?hd (cs := #[.int .i64 a0_0, .int .i64 a0_1, .slice A0_2 l0_2.length c0_2]) (t := 24) ?hr ?_; (case hd => rfl); (case hg => rfl); (case hr => first | (go_simp; done) | (go_simp; rfl)); intro gb131 hg w11 hbox hb; have BK131 := Aside0.mk (hbox); have GW131 := Aside0.mk ((by rw [hg]; exact (below_size (nC HB)) : w.heap.size ≤ gb131)); have GE131 := Aside0.mk ((by rw [hg]; exact (below_size (nC HB)) : w.heap.size ≤ gb131)); replace HB := Aside0.mk (below_step (nC HB) hb); clear hb hbox hg) | ((with_reducible refine gate_dst (N := 3) rfl ?_); refine box_event ?hg (N := 3) ?hd (cs := #[.int .i64 a1_0, .int .i64 a1_1, .slice A1_2 l1_2.length c1_2]) (t := 24) ?hr ?_; (case hd => rfl); (case hg => rfl); (case hr => first | (go_simp; done) | (go_simp; rfl)); intro gb132 hg w12 hbox hb; have BK132 := Aside0.mk (hbox); have GW132 := Aside0.mk ((by rw [hg]; exact (below_size (nC HB)) : w.heap.size ≤ gb132)); have GE132 := Aside0.mk ((by rw [hg]; exact (below_size (nC HB)) : w.heap.size ≤ gb132)); replace HB := Aside0.mk (below_step (nC HB) hb); have NB131_132 := Aside0.mk ((by rw [hg]; exact Nat.ne_of_lt (blk_lt (nK BK131)) : gb131 ≠ gb132)); have NB132_131 := Aside0.mk ((by rw [hg]; exact Nat.ne_of_gt (blk_lt (nK BK131)) : gb132 ≠ gb131)); replace BK131 := Aside0.mk (nB BK131 hb); clear hb hbox hg; have hnb13 := NB131_132.out; have hnc13 := NB132_131.out; obtain ⟨hcz14_0, hcz14_1, hcz14_2, hfz14_0, hfz14_1, hfz14_2⟩ := cz3 BK131; obtain ⟨hcz15_0, hcz15_1, hcz15_2, hfz15_0, hfz15_1, hfz15_2⟩ := cz3 BK132))
     go_ret
     exact ⟨by first | rfl | (simp [errW_none, errW_some] <;> rfl) | (simp [*, errW_none, errW_some] <;> rfl), nC HB⟩
 · rw [if_neg c3] at H; have c3b0 : (a0_0 == a1_0) = false := beq_eq_false_iff_ne.mpr c3; have c3b1 : (a0_0 != a1_0) = true := bne_iff_ne.mpr c3; obtain rfl := Option.some.inj H; go_enter Try.func15, Try.ntmps15
   go_wp2_with (first | ((with_reducible refine gate_dst (N := 2) rfl ?_); refine box_event ?hg (N := 2) ?hd (cs := #[.int .i64 a0_0, .int .i64 a0_1, .slice A0_2 l0_2.length c0_2]) (t := 24) ?hr ?_; (case hd => rfl); (case hg => rfl); (case hr => first | (go_simp; done) | (go_simp; rfl)); intro gb131 hg w16 hbox hb; have BK131 := Aside0.mk (hbox); have GW131 := Aside0.mk ((by rw [hg]; exact (below_size (nC HB)) : w.heap.size ≤ gb131)); have GE131 := Aside0.mk ((by rw [hg]; exact (below_size (nC HB)) : w.heap.size ≤ gb131)); replace HB := Aside0.mk (below_step (nC HB) hb); clear hb hbox hg) | ((with_reducible refine gate_dst (N := 3) rfl ?_); refine box_event ?hg (N := 3) ?hd (cs := #[.int .i64 a1_0, .int .i64 a1_1, .slice A1_2 l1_2.length c1_2]) (t := 24) ?hr ?_; (case hd => rfl); (case hg => rfl); (case hr => first | (go_simp; done) | (go_simp; rfl)); intro gb132 hg w17 hbox hb; have BK132 := Aside0.mk (hbox); have GW132 := Aside0.mk ((by rw [hg]; exact (below_size (nC HB)) : w.heap.size ≤ gb132)); have GE132 := Aside0.mk ((by rw [hg]; exact (below_size (nC HB)) : w.heap.size ≤ gb132)); replace HB := Aside0.mk (below_step (nC HB) hb); have NB131_132 := Aside0.mk ((by rw [hg]; exact Nat.ne_of_lt (blk_lt (nK BK131)) : gb131 ≠ gb132)); have NB132_131 := Aside0.mk ((by rw [hg]; exact Nat.ne_of_gt (blk_lt (nK BK131)) : gb132 ≠ gb131)); replace BK131 := Aside0.mk (nB BK131 hb); clear hb hbox hg; have hnb18 := NB131_132.out; have hnc18 := NB132_131.out; obtain ⟨hcz19_0, hcz19_1, hcz19_2, hfz19_0, hfz19_1, hfz19_2⟩ := cz3 BK131; obtain ⟨hcz20_0, hcz20_1, hcz20_2, hfz20_0, hfz20_1, hfz20_2⟩ := cz3 BK132))
   go_ret
   exact ⟨by first | rfl | (simp [errW_none, errW_some] <;> rfl) | (simp [*, errW_none, errW_some] <;> rfl), nC HB⟩
def kimberliteref03_Row_To.f (a0_0 : Int) (l0_1 : List Int) : Option (Int) := some (wrap64 ((wrap64 (a0_0 + (l0_1.length : Int))) - 1))
set_option maxHeartbeats 8000000 in
set_option maxRecDepth 100000 in
theorem kimberliteref03_Row_To.calls (a0_0 : Int) (A0_1 : Option Addr) (c0_1 : Nat) (l0_1 : List Int) (r : Int) (w : World) (hr0_1 : Kd.C (Kd.int .i64) w A0_1 l0_1.length l0_1) (hc0_1 : l0_1.length ≤ c0_1) (h : kimberliteref03_Row_To.f a0_0 l0_1 = some r) :
 Calls Try.prog 65 #[.agg #[.int .i64 a0_0, .slice A0_1 l0_1.length c0_1]] w fun e w' => e = .returned (.int .i64 r) ∧ Below w.heap.size w w' := by
 have hu78 := Try.underlying78; have HR0_1 := Aside0.mk hr0_1; have HC0_1 := Aside0.mk hc0_1; clear hr0_1 hc0_1; have HB := Aside0.mk (Below.refl w.heap.size w); have H : (some (wrap64 ((wrap64 (a0_0 + (l0_1.length : Int))) - 1))) = some r := h; clear h; obtain rfl := Option.some.inj H; go_enter Try.func65, Try.ntmps65
 go_wp2_with (first | ((with_reducible refine gate_dst (N := 1) rfl ?_); refine box_event ?hg (N := 1) ?hd (cs := #[.int .i64 a0_0, .slice A0_1 l0_1.length c0_1]) (t := 78) ?hr ?_; (case hd => rfl); (case hg => rfl); (case hr => first | (go_simp; done) | (go_simp; rfl)); intro gb134 hg w2 hbox hb; have BK134 := Aside0.mk (hbox); have GW134 := Aside0.mk ((by rw [hg]; exact (below_size (nC HB)) : w.heap.size ≤ gb134)); have GE134 := Aside0.mk ((by rw [hg]; exact (below_size (nC HB)) : w.heap.size ≤ gb134)); replace HB := Aside0.mk (below_step (nC HB) hb); clear hb hbox hg; obtain ⟨hcz3_0, hcz3_1, hfz3_0, hfz3_1⟩ := cz2 BK134))
 go_ret
 exact ⟨by first | rfl | (simp [errW_none, errW_some] <;> rfl) | (simp [*, errW_none, errW_some] <;> rfl), nC HB⟩
def kimberliteref03_Row_Value.f (a0_0 : Int) (l0_1 : List Int) (a1 : Int) : Option (Int) := if 0 ≤ (wrap64 (a1 - a0_0)) then (if (wrap64 (a1 - a0_0)) < (l0_1.length : Int) then (some (rd l0_1 (wrap64 (a1 - a0_0)))) else (none)) else (none)
set_option maxHeartbeats 8000000 in
set_option maxRecDepth 100000 in
theorem kimberliteref03_Row_Value.calls (a0_0 : Int) (A0_1 : Option Addr) (c0_1 : Nat) (l0_1 : List Int) (a1 : Int) (r : Int) (w : World) (hr0_1 : Kd.C (Kd.int .i64) w A0_1 l0_1.length l0_1) (hc0_1 : l0_1.length ≤ c0_1) (h : kimberliteref03_Row_Value.f a0_0 l0_1 a1 = some r) :
 Calls Try.prog 68 #[.agg #[.int .i64 a0_0, .slice A0_1 l0_1.length c0_1], .int .i64 a1] w fun e w' => e = .returned (.int .i64 r) ∧ Below w.heap.size w w' := by
 have hu78 := Try.underlying78; have HR0_1 := Aside0.mk hr0_1; have HC0_1 := Aside0.mk hc0_1; clear hr0_1 hc0_1; have HB := Aside0.mk (Below.refl w.heap.size w); have H : (if 0 ≤ (wrap64 (a1 - a0_0)) then (if (wrap64 (a1 - a0_0)) < (l0_1.length : Int) then (some (rd l0_1 (wrap64 (a1 - a0_0)))) else (none)) else (none)) = some r := h; clear h; obtain ⟨ji3, hji3⟩ : ∃ j_ : Int, (wrap64 (a1 - a0_0)) = j_ := ⟨_, rfl⟩; replace H : (if 0 ≤ (ji3) then (if (ji3) < (l0_1.length : Int) then (some (rd l0_1 (ji3))) else (none)) else (none)) = some r := by first | (rw [hji3] at H; exact H) | (simp only [hji3] at H ⊢; exact H)
 have hji3w : (IntKind.i64.wrap (a1 - a0_0)) = ji3 := (i64_w _).trans hji3
 by_cases c4 : 0 ≤ (ji3)
 · rw [if_pos c4] at H; have c4b0 : decide (0 ≤ (ji3)) = true := decide_eq_true c4; clear c4
   by_cases c5 : (ji3) < (l0_1.length : Int)
   · rw [if_pos c5] at H; have c5b0 : decide ((ji3) < (l0_1.length : Int)) = true := decide_eq_true c5; clear c5; obtain rfl := Option.some.inj H; go_enter Try.func68, Try.ntmps68
     go_wp2_with (first | ((with_reducible refine gate_dst (N := 2) rfl ?_); refine box_event ?hg (N := 2) ?hd (cs := #[.int .i64 a0_0, .slice A0_1 l0_1.length c0_1]) (t := 78) ?hr ?_; (case hd => rfl); (case hg => rfl); (case hr => first | (go_simp; done) | (go_simp; rfl)); intro gb135 hg w6 hbox hb; have BK135 := Aside0.mk (hbox); have GW135 := Aside0.mk ((by rw [hg]; exact (below_size (nC HB)) : w.heap.size ≤ gb135)); have GE135 := Aside0.mk ((by rw [hg]; exact (below_size (nC HB)) : w.heap.size ≤ gb135)); replace HB := Aside0.mk (below_step (nC HB) hb); clear hb hbox hg; obtain ⟨hcz7_0, hcz7_1, hfz7_0, hfz7_1⟩ := cz2 BK135; have p136 : 0 ≤ ((ji3) : Int) := of_decide_eq_true (by first | (with_reducible assumption) | assumption); have q136 : (ji3) < (l0_1.length : Int) := of_decide_eq_true (by first | (with_reducible assumption) | assumption); obtain ⟨ad136, e136, hx136_0⟩ := Kd.at_int HR0_1.out (ji3) p136 q136; cases e136; replace hx136_0 := (HB.out.cell (World.block_lt_of_cell? w _ hx136_0)).trans hx136_0; replace p136 := eq_true p136; replace q136 := eq_true q136))
     go_ret
     exact ⟨by first | rfl | (simp [errW_none, errW_some] <;> rfl) | (simp only [← hji3]; first | rfl | (simp [errW_none, errW_some] <;> rfl)) | (simp [*, errW_none, errW_some] <;> rfl), nC HB⟩
   · rw [if_neg c5] at H; exact absurd H (by simp)
 · rw [if_neg c4] at H; exact absurd H (by simp)
end Go.Proofs.Ytingjpcgehgiiaa.Pr
end
section
namespace Go.Proofs.Ytingjpcgehgiiaa.Pr
open Go.RowKit Go.Proofs.YtingjpcgehgiiaaW.PrintWords Go.Proofs.YtingjpcgehgiiaaW.PrintLast Go.Proofs.YtingjpcgehgiiaaW.PrintMore
attribute [local go_sem] max2_int min2_int max_two min_two max_three min_three max_four min_four   -- for this text's walks alone
set_option linter.unusedVariables false
set_option linter.unusedSimpArgs false
def kimberlitelaw03_own.l0 : Nat → List Int → Int → Int → Int → List Int → Option (Int × Int × List Int)
 | 0, _, _, _, _, _ => none
 | k + 1, x3, x4, x458000, x458001, x458002 => if x4 < (x3.length : Int) then (if 0 ≤ x4 then (if x4 < (x458002.length : Int) then (kimberlitelaw03_own.l0 k (x3.set (x4 : Int).toNat (rd x458002 x4)) (wrap64 (x4 + 1)) x458000 x458001 x458002) else (none)) else (none)) else (some (x458000, x458001, x3))
def kimberlitelaw03_own.f (k : Nat) (a0_0 : Int) (a0_1 : Int) (l0_2 : List Int) : Option (Int × Int × List Int) := if 0 ≤ (l0_2.length : Int) then (if ((l0_2.length : Int) : Int).toNat ≤ 35184372088832 then (kimberlitelaw03_own.l0 k (List.replicate ((l0_2.length : Int) : Int).toNat 0) 0 a0_0 a0_1 l0_2) else (none)) else (none)
theorem kimberlitelaw03_own.mono_l : ∀ k, (∀ y0 y1 y2 y3 y4, LeO (kimberlitelaw03_own.l0 k y0 y1 y2 y3 y4) (kimberlitelaw03_own.l0 (k + 1) y0 y1 y2 y3 y4))
 | 0 => fun _ _ _ _ _ r h => by simp [kimberlitelaw03_own.l0] at h
 | k + 1 => by
  have ih0 := kimberlitelaw03_own.mono_l k
  · intro y0 y1 y2 y3 y4; unfold kimberlitelaw03_own.l0
    repeat' first
    | (with_reducible exact ih0 _ _ _ _ _)
    | (with_reducible exact LeO.refl _)
    | (with_reducible exact LeO.none _)
    | (with_reducible refine LeO.ite ?_ ?_)
    | (with_reducible refine LeO.bind ?_ (fun _ => ?_))
    | exact ih0 _ _ _ _ _
    | exact LeO.none _
    | refine LeO.ite ?_ ?_
    | refine LeO.bind ?_ (fun _ => ?_)
theorem kimberlitelaw03_own.mono : ∀ a0 a1 a2 k, LeO (kimberlitelaw03_own.f k a0 a1 a2) (kimberlitelaw03_own.f (k + 1) a0 a1 a2) := by
 intro a0 a1 a2 k; have ih0 := kimberlitelaw03_own.mono_l k; unfold kimberlitelaw03_own.f
 repeat' first
  | (with_reducible exact ih0 _ _ _ _ _)
  | (with_reducible exact LeO.refl _)
  | (with_reducible exact LeO.none _)
  | (with_reducible refine LeO.ite ?_ ?_)
  | (with_reducible refine LeO.bind ?_ (fun _ => ?_))
  | exact ih0 _ _ _ _ _
  | exact LeO.none _
  | refine LeO.ite ?_ ?_
  | refine LeO.bind ?_ (fun _ => ?_)
set_option maxHeartbeats 8000000 in
set_option maxRecDepth 100000 in
theorem kimberlitelaw03_own.calls (k : Nat) (a0_0 : Int) (a0_1 : Int) (A0_2 : Option Addr) (c0_2 : Nat) (l0_2 : List Int) (r1 : Int) (r2 : Int) (r3 : List Int) (w : World) (hr0_2 : Kd.C (Kd.int .i64) w A0_2 l0_2.length l0_2) (hc0_2 : l0_2.length ≤ c0_2) (h : kimberlitelaw03_own.f k a0_0 a0_1 l0_2 = some (r1, r2, r3)) :
 Calls Try.prog 27 #[.agg #[.int .i64 a0_0, .int .i64 a0_1, .slice A0_2 l0_2.length c0_2]] w fun e w' => ∃ v2_ : Value, e = .returned (.agg #[.int .i64 r1, .int .i64 r2, v2_]) ∧ Kd.R (Kd.int .i64) 3 w' w.heap.size (fun _ => True) v2_ r3 ∧ Below w.heap.size w w' := by
 have hu24 := Try.underlying24; have HR0_2 := Aside0.mk hr0_2; have HC0_2 := Aside0.mk hc0_2; clear hr0_2 hc0_2; have HB := Aside0.mk (Below.refl w.heap.size w); have H : (if 0 ≤ (l0_2.length : Int) then (if ((l0_2.length : Int) : Int).toNat ≤ 35184372088832 then (kimberlitelaw03_own.l0 k (List.replicate ((l0_2.length : Int) : Int).toNat 0) 0 a0_0 a0_1 l0_2) else (none)) else (none)) = some (r1, r2, r3) := h; clear h
 by_cases c2 : 0 ≤ (l0_2.length : Int)
 · rw [if_pos c2] at H; have c2b0 := eq_true c2; have c2b1 : decide (0 ≤ (l0_2.length : Int)) = true := decide_eq_true c2; clear c2
   by_cases c3 : ((l0_2.length : Int) : Int).toNat ≤ 35184372088832
   · rw [if_pos c3] at H; have c3b0 := eq_true c3; have c3b1 : decide (((l0_2.length : Int) : Int).toNat ≤ 35184372088832) = true := decide_eq_true c3; clear c3; obtain ⟨y459, hy459⟩ : ∃ y_ : List Int, y_ = (List.replicate ((l0_2.length : Int) : Int).toNat 0) := ⟨_, rfl⟩; replace H : (kimberlitelaw03_own.l0 k y459 0 a0_0 a0_1 l0_2) = some (r1, r2, r3) := by first | (rw [hy459]; with_reducible exact H) | (have H2_ := (Option.bind_some _ _).symm.trans H; rw [hy459]; with_reducible exact H2_) | (have H2_ := (Option.bind_some _ _).symm.trans H; with_reducible exact H2_) | with_reducible exact H | (rw [hy459]; exact H) | exact H
     have Ny459 := Aside0.mk hy459; clear hy459; have H' := Aside0.mk H; clear H; go_enter Try.func27, Try.ntmps27
     go_wp2_with (first | ((with_reducible refine gate_dst (N := 1) rfl ?_); refine box_event ?hg (N := 1) ?hd (cs := #[.int .i64 a0_0, .int .i64 a0_1, .slice A0_2 l0_2.length c0_2]) (t := 24) ?hr ?_; (case hd => rfl); (case hg => rfl); (case hr => first | (go_simp; done) | (go_simp; rfl)); intro gb457 hg w4 hbox hb; have BK457 := Aside0.mk (hbox); have GW457 := Aside0.mk ((by rw [hg]; exact (below_size (nC HB)) : w.heap.size ≤ gb457)); have GE457 := Aside0.mk ((by rw [hg]; exact (below_size (nC HB)) : w.heap.size ≤ gb457)); replace HB := Aside0.mk (below_step (nC HB) hb); clear hb hbox hg) | ((with_reducible refine gate_dst (N := 2) rfl ?_); refine box_event ?hg (N := 2) ?hd (cs := #[.int .i64 0, .int .i64 0, .slice none 0 0]) (t := 24) ?hr ?_; (case hd => rfl); (case hg => rfl); (case hr => first | (go_simp; done) | (go_simp; rfl)); intro gb458 hg w5 hbox hb; have BK458 := Aside0.mk (hbox); have GW458 := Aside0.mk ((by rw [hg]; exact (below_size (nC HB)) : w.heap.size ≤ gb458)); have GE458 := Aside0.mk ((by rw [hg]; exact (below_size (nC HB)) : w.heap.size ≤ gb458)); replace HB := Aside0.mk (below_step (nC HB) hb); have NB457_458 := Aside0.mk ((by rw [hg]; exact Nat.ne_of_lt (blk_lt (nK BK457)) : gb457 ≠ gb458)); have NB458_457 := Aside0.mk ((by rw [hg]; exact Nat.ne_of_gt (blk_lt (nK BK457)) : gb458 ≠ gb457)); replace BK457 := Aside0.mk (nB BK457 hb); clear hb hbox hg; have hnb6 := NB457_458.out; have hnc6 := NB458_457.out; obtain ⟨hcz7_0, hcz7_1, hcz7_2, hfz7_0, hfz7_1, hfz7_2⟩ := cz3 BK457) | ((with_reducible refine gate_dst (N := 8) rfl ?_); refine Kd.R_make (Kd.int .i64) _ 3 rfl (N := 8) rfl 22 _ _ rfl (l0_2.length : Int) rfl rfl Try.underlying22 (.int .i64 0) 8 info3 rfl (by decide) (by omega) 0 (ok := fun _ => True) (okp := fun _ => True) rfl (fun _ hk => hk) trivial (of_decide_eq_true (by first | (with_reducible assumption) | assumption)) (Nat.le_trans (Nat.mul_le_mul_right _ (of_decide_eq_true (by first | (with_reducible assumption) | assumption) : (l0_2.length : Int).toNat ≤ 35184372088832)) (by omega)) (Below.refl _ _) (Nat.le_refl _) ?_; intro v460 w8 ho9 hb hg_ hnew_; clear hg_ hnew_; (first | rw [← Ny459.out] at ho9 | (simp only [Int.reduceToNat] at ho9; rw [← Ny459.out] at ho9)); have HO461 := Aside0.mk (Kd.R_lower ho9 (below_size (nC HB))); replace BK457 := Aside0.mk (nB BK457 hb); replace BK458 := Aside0.mk (nB BK458 hb); replace HB := Aside0.mk (below_step (nC HB) hb); clear hb ho9))
     go_loopg [4] k (fun kq v4 w' => ∃ (x3_1 : List Int) (x4_1 : Int), v4 = .int .i64 x4_1 ∧ Aside0 (kimberlitelaw03_own.l0 kq x3_1 x4_1 a0_0 a0_1 l0_2 = some (r1, r2, r3)) ∧ Aside0 (kq ≤ k) ∧ Aside0 (Kd.R (Kd.int .i64) 3 w' w.heap.size (fun _ => True) v460 x3_1) ∧ Aside0 (w'.heap[gb457]? = some (.cells #[.int .i64 a0_0, .int .i64 a0_1, (.slice A0_2 l0_2.length c0_2)] 24 (0, 0))) ∧ Aside0 (w'.heap[gb458]? = some (.cells #[.int .i64 0, .int .i64 0, (.slice none 0 0)] 24 (0, 0))) ∧ Aside0 (Below w.heap.size w w'))
     case atStart => exact ⟨(y459), (0), (by first | rfl | (simp; done) | (simp [*]; done)), H', ⟨Nat.le_refl _⟩, ⟨nR HO461⟩, ⟨nK BK457⟩, ⟨nK BK458⟩, ⟨nC HB⟩⟩
     case round =>
      clear H'; obtain ⟨x3_1, x4_1, rfl, HA, HK1, HO_3, BK457, BK458, HB⟩ := hrel
      cases gk with
      | zero => exact absurd HA.out (by simp [kimberlitelaw03_own.l0])
      | succ k1 =>
       have H := HA.out; clear HA; simp only [kimberlitelaw03_own.l0] at H
       by_cases c10 : x4_1 < (x3_1.length : Int)
       · rw [if_pos c10] at H; have c10b0 : decide (x4_1 < (x3_1.length : Int)) = true := decide_eq_true c10; clear c10
         by_cases c11 : 0 ≤ x4_1
         · rw [if_pos c11] at H; have c11b0 : decide (0 ≤ x4_1) = true := decide_eq_true c11; clear c11
           by_cases c12 : x4_1 < (l0_2.length : Int)
           · rw [if_pos c12] at H; have c12b0 : decide (x4_1 < (l0_2.length : Int)) = true := decide_eq_true c12; clear c12; obtain ⟨y463, hy463⟩ : ∃ y_ : List Int, y_ = (x3_1.set (x4_1 : Int).toNat (rd l0_2 x4_1)) := ⟨_, rfl⟩; replace H : (kimberlitelaw03_own.l0 k1 y463 (wrap64 (x4_1 + 1)) a0_0 a0_1 l0_2) = some (r1, r2, r3) := by first | (rw [hy463]; with_reducible exact H) | (have H2_ := (Option.bind_some _ _).symm.trans H; rw [hy463]; with_reducible exact H2_) | (have H2_ := (Option.bind_some _ _).symm.trans H; with_reducible exact H2_) | with_reducible exact H | (rw [hy463]; exact H) | exact H
             have Ny463 := Aside0.mk hy463; clear hy463; have H' := Aside0.mk H; clear H; obtain ⟨Ao14, co14, eo14⟩ := Kd.R_slice HO_3.out; subst eo14; have hnb15 := NB457_458.out; have hnc15 := NB458_457.out; obtain ⟨hcz16_0, hcz16_1, hcz16_2, hfz16_0, hfz16_1, hfz16_2⟩ := cz3 BK457; have p462 : 0 ≤ (x4_1 : Int) := of_decide_eq_true (by first | (with_reducible assumption) | assumption); have q462 : x4_1 < (l0_2.length : Int) := of_decide_eq_true (by first | (with_reducible assumption) | assumption); obtain ⟨ad462, e462, hx462_0⟩ := Kd.at_int HR0_2.out x4_1 p462 q462
             cases e462
             replace hx462_0 := (HB.out.cell (World.block_lt_of_cell? w _ hx462_0)).trans hx462_0; replace p462 := eq_true p462; replace q462 := eq_true q462; have p13 : 0 ≤ (x4_1 : Int) := of_decide_eq_true (by first | (with_reducible assumption) | assumption); have q13 : (x4_1 : Int) < ((x3_1.length : Int) : Int) := of_decide_eq_true (by first | (with_reducible assumption) | assumption); obtain ⟨go13, co13, eo13, gb13, gl13, cl13, HG13⟩ := Kd.R_form HO_3.out (by omega); (first | cases eo13 | (injection eo13 with ea_ en_ ec_; (first | subst ea_ | (injection ea_ with ea_; subst ea_)); subst ec_; clear en_)); have GB13 := Aside0.mk gb13; have GG13 := Aside0.mk HG13; clear gb13 gl13 HG13; obtain ⟨hx13_0, hf13_0⟩ := Kd.R_celln 0 HO_3.out (x4_1 : Int) p13 q13; replace p13 := eq_true p13; replace q13 := eq_true q13; have HP17 := Kd.R_putg HO_3.out (x4_1 : Int) (rd l0_2 x4_1); go_wp2_with (first | ((with_reducible refine gate_store (t := 3) (p := 22) rfl ?_); refine store_event (t := 3) (p := 22) (v := ?vo_w18) (w1 := (wr.setCell ⟨go13, (x4_1 : Int).toNat, none⟩ (.int .i64 (rd l0_2 x4_1)))) ?hg ?ho ?hn ?hr ?_; (case ho => rfl); (case hg => rfl); (case hn => rfl); (case hr => first | (go_simp; done) | (go_simp; rfl)); intro w18 hw; have hg : wr.grownBy w18 (some go13) := (by rw [hw]; exact HP17.2); have hp_ : Kd.R (Kd.int .i64) 3 w18 w.heap.size (fun _ => True) (.slice (some ⟨go13, 0, none⟩) x3_1.length co14) y463 := (by rw [hw, Ny463.out]; exact HP17.1); clear HP17; replace BK457 := Aside0.mk (blk_grown (g := gb457) (o := .cells #[.int .i64 a0_0, .int .i64 a0_1, .slice (some ad462) l0_2.length c0_2] 24 (0, 0)) (nK BK457) hg (Kd.R_ne HO_3.out BK457.out (by decide))); replace BK458 := Aside0.mk (blk_grown (g := gb458) (o := .cells #[.int .i64 0, .int .i64 0, .slice none 0 0] 24 (0, 0)) (nK BK458) hg (Kd.R_ne HO_3.out BK458.out (by decide))); replace HO_3 := Aside0.mk (hp_); replace HB := Aside0.mk ((by rw [hw]; exact below_set (HB.out) GB13.out : Below w.heap.size w w18)); clear hg hw hp_))
             go_roundg k1
             case measure => have := HK1.out; omega
             case rel => exact ⟨(y463), (wrap64 (x4_1 + 1)), (by first | rfl | (simp; done) | (simp [*]; done)), H', ⟨by have := HK1.out; omega⟩, ⟨nR HO_3⟩, ⟨nK BK457⟩, ⟨nK BK458⟩, ⟨nC HB⟩⟩
           · rw [if_neg c12] at H; exact absurd H (by simp)
         · rw [if_neg c11] at H; exact absurd H (by simp)
       · rw [if_neg c10] at H; have c10b0 : decide (x4_1 < (x3_1.length : Int)) = false := decide_eq_false c10; clear c10; simp only [Option.some.injEq, Prod.mk.injEq] at H; obtain ⟨rfl, rfl, rfl⟩ := H; obtain ⟨Ao19, co19, eo19⟩ := Kd.R_slice HO_3.out; subst eo19; have hnb20 := NB457_458.out; have hnc20 := NB458_457.out; obtain ⟨hcz21_0, hcz21_1, hcz21_2, hfz21_0, hfz21_1, hfz21_2⟩ := cz3 BK457; obtain ⟨hcz22_0, hcz22_1, hcz22_2, hfz22_0, hfz22_1, hfz22_2⟩ := cz3 BK458; go_wp2
         refine bodyPost_ret (results_cell_row rfl _ _ gb458 24 #[.int .i64 a0_0, .int .i64 a0_1, .slice Ao19 x3_1.length co19] (0, 0) _ rfl (by (with_reducible repeat (first | refine blk_drewN ?_ _ | refine blk_drew ?_ | refine blk_alloc ?_ _)); refine blk_put (cs := #[.int .i64 a0_0, .int .i64 a0_1, .slice none 0 0]) ?_ 2 _ rfl; (with_reducible repeat (first | refine blk_drewN ?_ _ | refine blk_drew ?_ | refine blk_alloc ?_ _)); refine blk_put (cs := #[.int .i64 a0_0, .int .i64 0, .slice none 0 0]) ?_ 1 _ rfl; (with_reducible repeat (first | refine blk_drewN ?_ _ | refine blk_drew ?_ | refine blk_alloc ?_ _)); refine blk_put (cs := #[.int .i64 0, .int .i64 0, .slice none 0 0]) ?_ 0 _ rfl; (with_reducible repeat (first | refine blk_drewN ?_ _ | refine blk_drew ?_ | refine blk_alloc ?_ _)); refine blk_far ?_ NB458_457.out _; (with_reducible repeat (first | refine blk_drewN ?_ _ | refine blk_drew ?_ | refine blk_alloc ?_ _)); exact BK458.out) Try.underlying24 rfl (by kernel_rfl)) rfl ?_; exact ⟨_, by first | rfl | (simp [errW_none, errW_some] <;> rfl) | (simp [*, errW_none, errW_some] <;> rfl), by (with_reducible repeat (first | apply Kd.R_alloc | apply Kd.R_drewN | apply Kd.R_drew)); exact Kd.R_mono (Kd.R_far (p := ⟨gb458, 2, none⟩) (Kd.R_far (p := ⟨gb458, 1, none⟩) (Kd.R_far (p := ⟨gb458, 0, none⟩) (Kd.R_far (p := ⟨gb457, 2, none⟩) (Kd.R_types (Kd.R_types HO_3.out BK457.out (by decide)) BK458.out (by decide)) (fun _ hk => hk.1.2) (.slice Ao19 x3_1.length co19)) (fun _ hk => hk.2) (.int .i64 a0_0)) (fun _ hk => hk.2) (.int .i64 a0_1)) (fun _ hk => hk.2) (.slice Ao19 x3_1.length co19)) (fun _ hk => trivial), nC HB⟩
   · rw [if_neg c3] at H; exact absurd H (by simp)
 · rw [if_neg c2] at H; exact absurd H (by simp)
mutual
def kimberlitelaw03_told.j0 : Nat → Bool → Int → Int → List Int → Option (Bool × List Int)
 | 0, _, _, _, _ => none
 | k + 1, x9, x465000, x465001, x465002 => kimberlitelaw03_told.l0 k x9 0 x465000 x465001 x465002
def kimberlitelaw03_told.l0 : Nat → Bool → Int → Int → Int → List Int → Option (Bool × List Int)
 | 0, _, _, _, _, _ => none
 | k + 1, x9, x10, x465000, x465001, x465002 => if x10 < (x465002.length : Int) then (if 0 ≤ x10 then (kimberlitelaw03_told.l0 k x9 (wrap64 (x10 + 1)) x465000 x465001 (x465002.set (x10 : Int).toNat (-77))) else (none)) else (some (x9, x465002))
end
def kimberlitelaw03_told.f (k : Nat) (a0_0 : Int) (a0_1 : Int) (l0_2 : List Int) (a1 : Int) (a2_0 : Int) (a2_1 : Int) (l2_2 : List Int) (a3 : Int) : Option (Bool × List Int) := (kimberlitelaw03_alike.f k a0_0 a0_1 l0_2 a2_0 a2_1 l2_2).bind fun t466 => (if t466 = true then (kimberlitelaw03_told.j0 k (a1 == a3) a0_0 a0_1 l0_2) else (kimberlitelaw03_told.j0 k false a0_0 a0_1 l0_2))
theorem kimberlitelaw03_told.mono_l : ∀ k, (∀ y0 y1 y2 y3, LeO (kimberlitelaw03_told.j0 k y0 y1 y2 y3) (kimberlitelaw03_told.j0 (k + 1) y0 y1 y2 y3)) ∧ (∀ y0 y1 y2 y3 y4, LeO (kimberlitelaw03_told.l0 k y0 y1 y2 y3 y4) (kimberlitelaw03_told.l0 (k + 1) y0 y1 y2 y3 y4))
 | 0 => ⟨fun _ _ _ _ r h => by simp [kimberlitelaw03_told.j0] at h, fun _ _ _ _ _ r h => by simp [kimberlitelaw03_told.l0] at h⟩
 | k + 1 => by
  obtain ⟨ih0, ih1⟩ := kimberlitelaw03_told.mono_l k; refine ⟨?_, ?_⟩
  · intro y0 y1 y2 y3; unfold kimberlitelaw03_told.j0
    repeat' first
    | (with_reducible exact ih0 _ _ _ _)
    | (with_reducible exact ih1 _ _ _ _ _)
    | (with_reducible exact kimberlitelaw03_alike.mono _ _ _ _ _ _ _)
    | (with_reducible exact LeO.refl _)
    | (with_reducible exact LeO.none _)
    | (with_reducible refine LeO.ite ?_ ?_)
    | (with_reducible refine LeO.bind ?_ (fun _ => ?_))
    | exact ih0 _ _ _ _
    | exact ih1 _ _ _ _ _
    | exact kimberlitelaw03_alike.mono _ _ _ _ _ _ _
    | exact LeO.none _
    | refine LeO.ite ?_ ?_
    | refine LeO.bind ?_ (fun _ => ?_)
  · intro y0 y1 y2 y3 y4; unfold kimberlitelaw03_told.l0
    repeat' first
    | (with_reducible exact ih0 _ _ _ _)
    | (with_reducible exact ih1 _ _ _ _ _)
    | (with_reducible exact kimberlitelaw03_alike.mono _ _ _ _ _ _ _)
    | (with_reducible exact LeO.refl _)
    | (with_reducible exact LeO.none _)
    | (with_reducible refine LeO.ite ?_ ?_)
    | (with_reducible refine LeO.bind ?_ (fun _ => ?_))
    | exact ih0 _ _ _ _
    | exact ih1 _ _ _ _ _
    | exact kimberlitelaw03_alike.mono _ _ _ _ _ _ _
    | exact LeO.none _
    | refine LeO.ite ?_ ?_
    | refine LeO.bind ?_ (fun _ => ?_)
theorem kimberlitelaw03_told.mono : ∀ a0 a1 a2 a3 a4 a5 a6 a7 k, LeO (kimberlitelaw03_told.f k a0 a1 a2 a3 a4 a5 a6 a7) (kimberlitelaw03_told.f (k + 1) a0 a1 a2 a3 a4 a5 a6 a7) := by
 intro a0 a1 a2 a3 a4 a5 a6 a7 k; obtain ⟨ih0, ih1⟩ := kimberlitelaw03_told.mono_l k; unfold kimberlitelaw03_told.f
 repeat' first
  | (with_reducible exact ih0 _ _ _ _)
  | (with_reducible exact ih1 _ _ _ _ _)
  | (with_reducible exact kimberlitelaw03_alike.mono _ _ _ _ _ _ _)
  | (with_reducible exact LeO.refl _)
  | (with_reducible exact LeO.none _)
  | (with_reducible refine LeO.ite ?_ ?_)
  | (with_reducible refine LeO.bind ?_ (fun _ => ?_))
  | exact ih0 _ _ _ _
  | exact ih1 _ _ _ _ _
  | exact kimberlitelaw03_alike.mono _ _ _ _ _ _ _
  | exact LeO.none _
  | refine LeO.ite ?_ ?_
  | refine LeO.bind ?_ (fun _ => ?_)
set_option maxHeartbeats 8000000 in
set_option maxRecDepth 100000 in
theorem kimberlitelaw03_told.calls (k : Nat) (a0_0 : Int) (a0_1 : Int) (P0_2_ : Nat → Prop) (u9000_ : Value) (l0_2 : List Int) (a1 : Int) (a2_0 : Int) (a2_1 : Int) (A2_2 : Option Addr) (c2_2 : Nat) (l2_2 : List Int) (a3 : Int) (r1 : Bool) (r2 : List Int) (w0 w : World) (hB : Below w0.heap.size w0 w) (ho0_2 : Kd.R (Kd.int .i64) 3 w w0.heap.size P0_2_ u9000_ l0_2) (hr2_2 : ∀ W_, Kept w W_ (fun k_ => P0_2_ k_) → Kd.C (Kd.int .i64) W_ A2_2 l2_2.length l2_2) (hc2_2 : l2_2.length ≤ c2_2) (h : kimberlitelaw03_told.f k a0_0 a0_1 l0_2 a1 a2_0 a2_1 l2_2 a3 = some (r1, r2)) :
 Calls Try.prog 33 #[.agg #[.int .i64 a0_0, .int .i64 a0_1, u9000_], .int .i64 a1, .agg #[.int .i64 a2_0, .int .i64 a2_1, .slice A2_2 l2_2.length c2_2], .int .i64 a3] w fun e w' => e = .returned (.bool r1) ∧ Kd.R (Kd.int .i64) 3 w' w0.heap.size (fun k_ => (P0_2_ k_ ∨ w.heap.size ≤ k_)) u9000_ r2 ∧ Below w0.heap.size w0 w' ∧ Kept w w' (fun k_ => P0_2_ k_) := by
 have hu24 := Try.underlying24; have HO0_2 := Aside0.mk (show Kd.R (Kd.int .i64) 3 w w0.heap.size (fun k_ => (P0_2_ k_ ∨ w.heap.size ≤ k_)) u9000_ l0_2 from Kd.R_mono ho0_2 (fun k_ hk => (.inl hk))); have HR2_2 := Aside0.mk hr2_2; have HC2_2 := Aside0.mk hc2_2; clear hr2_2 hc2_2; have HK := Aside0.mk (Kept.refl w (fun k_ => P0_2_ k_)); have HW0 := Aside0.mk hB.size; have HB := Aside0.mk hB; clear hB; have H : ((kimberlitelaw03_alike.f k a0_0 a0_1 l0_2 a2_0 a2_1 l2_2).bind fun t466 => (if t466 = true then (kimberlitelaw03_told.j0 k (a1 == a3) a0_0 a0_1 l0_2) else (kimberlitelaw03_told.j0 k false a0_0 a0_1 l0_2))) = some (r1, r2) := h; clear h; have HC5 := Aside0.mk H; clear H; obtain ⟨Ao6, co6, eo6⟩ := Kd.R_slice HO0_2.out; subst eo6; go_enter Try.func33, Try.ntmps33
 go_upto_region 1 with (first | ((with_reducible refine gate_dst (N := 4) rfl ?_); refine box_event ?hg (N := 4) ?hd (cs := #[.int .i64 a0_0, .int .i64 a0_1, .slice Ao6 l0_2.length co6]) (t := 24) ?hr ?_; (case hd => rfl); (case hg => rfl); (case hr => first | (go_simp; done) | (go_simp; rfl)); intro gb464 hg w7 hbox hb; replace HO0_2 := Aside0.mk (Kd.R_below (nR HO0_2) hb); have BK464 := Aside0.mk (hbox); have GW464 := Aside0.mk ((by rw [hg]; exact (by first | exact HK.out.1 | exact (show Kept w _ (fun k_ => P0_2_ k_) from by repeat (first | (with_reducible first | exact HK.out | apply Kept.alloc | apply Kept.drewN | apply Kept.drew) | exact HK.out)).1) : w.heap.size ≤ gb464)); replace HK := Aside0.mk (Kept.below (S := (fun k_ => P0_2_ k_)) (by repeat (first | (with_reducible first | exact HK.out | apply Kept.alloc | apply Kept.drewN | apply Kept.drew) | exact HK.out)) hb); have GE464 := Aside0.mk ((by rw [hg]; exact (below_size (nC HB)) : w0.heap.size ≤ gb464)); replace HB := Aside0.mk (below_step (nC HB) hb); clear hb hbox hg) | ((with_reducible refine gate_dst (N := 6) rfl ?_); refine box_event ?hg (N := 6) ?hd (cs := #[.int .i64 a2_0, .int .i64 a2_1, .slice A2_2 l2_2.length c2_2]) (t := 24) ?hr ?_; (case hd => rfl); (case hg => rfl); (case hr => first | (go_simp; done) | (go_simp; rfl)); intro gb465 hg w8 hbox hb; replace HO0_2 := Aside0.mk (Kd.R_below (nR HO0_2) hb); have BK465 := Aside0.mk (hbox); have GW465 := Aside0.mk ((by rw [hg]; exact (by first | exact HK.out.1 | exact (show Kept w _ (fun k_ => P0_2_ k_) from by repeat (first | (with_reducible first | exact HK.out | apply Kept.alloc | apply Kept.drewN | apply Kept.drew | refine Kept.setCell ?_ (.inr GW464.out) _) | exact HK.out)).1) : w.heap.size ≤ gb465)); replace HK := Aside0.mk (Kept.below (S := (fun k_ => P0_2_ k_)) (by repeat (first | (with_reducible first | exact HK.out | apply Kept.alloc | apply Kept.drewN | apply Kept.drew | refine Kept.setCell ?_ (.inr GW464.out) _) | exact HK.out)) hb); have GE465 := Aside0.mk ((by rw [hg]; exact (below_size (nC HB)) : w0.heap.size ≤ gb465)); replace HB := Aside0.mk (below_step (nC HB) hb); have NB464_465 := Aside0.mk ((by rw [hg]; exact Nat.ne_of_lt (blk_lt (nK BK464)) : gb464 ≠ gb465)); have NB465_464 := Aside0.mk ((by rw [hg]; exact Nat.ne_of_gt (blk_lt (nK BK464)) : gb465 ≠ gb464)); replace BK464 := Aside0.mk (nB BK464 hb); clear hb hbox hg))
 (try simp only [Act.put, zs1, zs2, zs3]); go_cut [9] (fun v9 wc => ∃ (kq : Nat) (x9_4 : Bool), v9 = .bool x9_4 ∧ Aside0 (kimberlitelaw03_told.j0 kq x9_4 a0_0 a0_1 l0_2 = some (r1, r2)) ∧ Aside0 (kq ≤ k) ∧ Aside0 (Kd.R (Kd.int .i64) 3 wc w0.heap.size (fun k_ => (P0_2_ k_ ∨ w.heap.size ≤ k_)) (.slice Ao6 l0_2.length co6) l0_2) ∧ Aside0 (wc.heap[gb464]? = some (.cells #[.int .i64 a0_0, .int .i64 a0_1, (.slice Ao6 l0_2.length co6)] 24 (0, 0))) ∧ Aside0 (wc.heap[gb465]? = some (.cells #[.int .i64 a2_0, .int .i64 a2_1, (.slice A2_2 l2_2.length c2_2)] 24 (0, 0))) ∧ Aside0 (Kept w wc (fun k_ => P0_2_ k_)) ∧ Aside0 (Below w0.heap.size w0 wc))
 case first =>
  have H := HC5.out; clear HC5; replace H := Option.bind_eq_some_iff.mp H; obtain ⟨t466, A90, H⟩ := H; replace H : (if t466 = true then (kimberlitelaw03_told.j0 k (a1 == a3) a0_0 a0_1 l0_2) else (kimberlitelaw03_told.j0 k false a0_0 a0_1 l0_2)) = some (r1, r2) := H; have A9 := Aside0.mk A90; clear A90
  by_cases c10 : t466 = true
  · subst c10; replace H : (kimberlitelaw03_told.j0 k (a1 == a3) a0_0 a0_1 l0_2) = some (r1, r2) := by rw [if_pos rfl] at H; exact H
    have H' := Aside0.mk H; clear H; have hnb11 := NB464_465.out; have hnc11 := NB465_464.out; obtain ⟨hcz12_0, hcz12_1, hcz12_2, hfz12_0, hfz12_1, hfz12_2⟩ := cz3 BK464; obtain ⟨hcz13_0, hcz13_1, hcz13_2, hfz13_0, hfz13_1, hfz13_2⟩ := cz3 BK465; go_wp2_with (first | ((with_reducible refine gate_callee (f := 15) rfl ?_); refine gL (some 13) Try.func15 #[.agg #[.int .i64 a0_0, .int .i64 a0_1, .slice Ao6 l0_2.length co6], .agg #[.int .i64 a2_0, .int .i64 a2_1, .slice A2_2 l2_2.length c2_2]] ?_; (with_reducible refine (kimberlitelaw03_alike.calls k a0_0 a0_1 _ _ l0_2 a2_0 a2_1 _ _ l2_2 true _ ?side1 ?side2 ?side3 ?side4 A9.out).mono ?_); (case side1 => repeat (first | exact (Kd.R_reads' HO0_2.out).2.2 | (with_reducible refine Kd.C_alloc ?_ _) | (with_reducible refine Kd.C_drewN ?_ _) | (with_reducible refine Kd.C_drew ?_))); (case side2 => exact (Kd.R_reads' HO0_2.out).2.1); (case side3 => exact Kd.C_kept_now HR2_2.out (by repeat (first | (with_reducible first | exact HK.out | apply Kept.alloc | apply Kept.drewN | apply Kept.drew | refine Kept.setCell ?_ (.inr GW464.out) _ | refine Kept.setCell ?_ (.inr GW465.out) _) | exact HK.out))); (case side4 => exact HC2_2.out); rintro e w14 ⟨rfl, hb⟩; refine ⟨_, rfl, ?_⟩; replace HO0_2 := Aside0.mk (Kd.R_below (nR HO0_2) hb); replace BK464 := Aside0.mk (nB BK464 hb); replace BK465 := Aside0.mk (nB BK465 hb); replace HK := Aside0.mk (Kept.below (S := (fun k_ => P0_2_ k_)) (by repeat (first | (with_reducible first | exact HK.out | apply Kept.alloc | apply Kept.drewN | apply Kept.drew | refine Kept.setCell ?_ (.inr GW464.out) _ | refine Kept.setCell ?_ (.inr GW465.out) _) | exact HK.out)) hb); replace HB := Aside0.mk (below_step (nC HB) hb); (try clear hb); (try clear hb2); (try clear hk); (try clear hi)))
    go_meet
    case rel => exact ⟨_, ((a1 == a3)), (by first | rfl | (simp; done) | (simp [*]; done)), H', ⟨by first | omega | exact Nat.le_refl _⟩, ⟨nR HO0_2⟩, ⟨nK BK464⟩, ⟨nK BK465⟩, ⟨by repeat (first | (with_reducible first | exact HK.out | apply Kept.alloc | apply Kept.drewN | apply Kept.drew | refine Kept.setCell ?_ (.inr GW464.out) _ | refine Kept.setCell ?_ (.inr GW465.out) _) | exact HK.out)⟩, ⟨nC HB⟩⟩
  · replace c10 := Bool.eq_false_iff.mpr c10; subst c10; replace H : (kimberlitelaw03_told.j0 k false a0_0 a0_1 l0_2) = some (r1, r2) := by rw [if_neg (show ¬ (false = true) by decide)] at H; exact H
    have H' := Aside0.mk H; clear H; have hnb15 := NB464_465.out; have hnc15 := NB465_464.out; obtain ⟨hcz16_0, hcz16_1, hcz16_2, hfz16_0, hfz16_1, hfz16_2⟩ := cz3 BK464; obtain ⟨hcz17_0, hcz17_1, hcz17_2, hfz17_0, hfz17_1, hfz17_2⟩ := cz3 BK465; go_wp2_with (first | ((with_reducible refine gate_callee (f := 15) rfl ?_); refine gL (some 13) Try.func15 #[.agg #[.int .i64 a0_0, .int .i64 a0_1, .slice Ao6 l0_2.length co6], .agg #[.int .i64 a2_0, .int .i64 a2_1, .slice A2_2 l2_2.length c2_2]] ?_; (with_reducible refine (kimberlitelaw03_alike.calls k a0_0 a0_1 _ _ l0_2 a2_0 a2_1 _ _ l2_2 false _ ?side1 ?side2 ?side3 ?side4 A9.out).mono ?_); (case side1 => repeat (first | exact (Kd.R_reads' HO0_2.out).2.2 | (with_reducible refine Kd.C_alloc ?_ _) | (with_reducible refine Kd.C_drewN ?_ _) | (with_reducible refine Kd.C_drew ?_))); (case side2 => exact (Kd.R_reads' HO0_2.out).2.1); (case side3 => exact Kd.C_kept_now HR2_2.out (by repeat (first | (with_reducible first | exact HK.out | apply Kept.alloc | apply Kept.drewN | apply Kept.drew | refine Kept.setCell ?_ (.inr GW464.out) _ | refine Kept.setCell ?_ (.inr GW465.out) _) | exact HK.out))); (case side4 => exact HC2_2.out); rintro e w18 ⟨rfl, hb⟩; refine ⟨_, rfl, ?_⟩; replace HO0_2 := Aside0.mk (Kd.R_below (nR HO0_2) hb); replace BK464 := Aside0.mk (nB BK464 hb); replace BK465 := Aside0.mk (nB BK465 hb); replace HK := Aside0.mk (Kept.below (S := (fun k_ => P0_2_ k_)) (by repeat (first | (with_reducible first | exact HK.out | apply Kept.alloc | apply Kept.drewN | apply Kept.drew | refine Kept.setCell ?_ (.inr GW464.out) _ | refine Kept.setCell ?_ (.inr GW465.out) _) | exact HK.out)) hb); replace HB := Aside0.mk (below_step (nC HB) hb); (try clear hb); (try clear hb2); (try clear hk); (try clear hi)))
    go_meet
    case rel => exact ⟨_, (false), (by first | rfl | (simp; done) | (simp [*]; done)), H', ⟨by first | omega | exact Nat.le_refl _⟩, ⟨nR HO0_2⟩, ⟨nK BK464⟩, ⟨nK BK465⟩, ⟨by repeat (first | (with_reducible first | exact HK.out | apply Kept.alloc | apply Kept.drewN | apply Kept.drew | refine Kept.setCell ?_ (.inr GW464.out) _ | refine Kept.setCell ?_ (.inr GW465.out) _) | exact HK.out)⟩, ⟨nC HB⟩⟩
 case rest =>
  clear HC5; obtain ⟨kq, x9_4, rfl, HA, HJ4, HO_465002, BK464, BK465, HK, HB⟩ := hcut
  cases kq with
  | zero => exact absurd HA.out (by simp [kimberlitelaw03_told.j0])
  | succ kj4 =>
   have H := HA.out; clear HA; simp only [kimberlitelaw03_told.j0] at H; have H' := Aside0.mk H; clear H; go_wp2
   go_loopg [10] kj4 (fun kq v10 w' => ∃ (x10_2 : Int) (x465002_2 : List Int), v10 = .int .i64 x10_2 ∧ Aside0 (kimberlitelaw03_told.l0 kq x9_4 x10_2 a0_0 a0_1 x465002_2 = some (r1, r2)) ∧ Aside0 (kq ≤ kj4) ∧ Aside0 (Kd.R (Kd.int .i64) 3 w' w0.heap.size (fun k_ => (P0_2_ k_ ∨ w.heap.size ≤ k_)) (.slice Ao6 l0_2.length co6) x465002_2) ∧ Aside0 (w'.heap[gb464]? = some (.cells #[.int .i64 a0_0, .int .i64 a0_1, (.slice Ao6 l0_2.length co6)] 24 (0, 0))) ∧ Aside0 (w'.heap[gb465]? = some (.cells #[.int .i64 a2_0, .int .i64 a2_1, (.slice A2_2 l2_2.length c2_2)] 24 (0, 0))) ∧ Aside0 (Kept w w' (fun k_ => P0_2_ k_)) ∧ Aside0 (Below w0.heap.size w0 w'))
   case atStart => exact ⟨(0), (l0_2), (by first | rfl | (simp; done) | (simp [*]; done)), H', ⟨Nat.le_refl _⟩, ⟨nR HO_465002⟩, ⟨nK BK464⟩, ⟨nK BK465⟩, ⟨by repeat (first | (with_reducible first | exact HK.out | apply Kept.alloc | apply Kept.drewN | apply Kept.drew | refine Kept.setCell ?_ (.inr GW464.out) _ | refine Kept.setCell ?_ (.inr GW465.out) _) | exact HK.out)⟩, ⟨nC HB⟩⟩
   case round =>
    clear H'; obtain ⟨x10_2, x465002_2, rfl, HA, HK2, HO_465002, BK464, BK465, HK, HB⟩ := hrel; have hl465002_2 := (Kd.R_reads' HO_465002.out).1; rw [hl465002_2] at HO_465002; (try simp only [hl465002_2]); (try simp only [hl465002_2] at BK464); (try simp only [hl465002_2] at BK465)
    cases gk with
    | zero => exact absurd HA.out (by simp [kimberlitelaw03_told.l0])
    | succ k2 =>
     have H := HA.out; clear HA; simp only [kimberlitelaw03_told.l0] at H
     by_cases c19 : x10_2 < (x465002_2.length : Int)
     · rw [if_pos c19] at H; have c19b0 : decide (x10_2 < (x465002_2.length : Int)) = true := decide_eq_true c19; clear c19
       by_cases c20 : 0 ≤ x10_2
       · rw [if_pos c20] at H; have c20b0 : decide (0 ≤ x10_2) = true := decide_eq_true c20; clear c20; obtain ⟨y467, hy467⟩ : ∃ y_ : List Int, y_ = (x465002_2.set (x10_2 : Int).toNat (-77)) := ⟨_, rfl⟩; replace H : (kimberlitelaw03_told.l0 k2 x9_4 (wrap64 (x10_2 + 1)) a0_0 a0_1 y467) = some (r1, r2) := by first | (rw [hy467]; with_reducible exact H) | (have H2_ := (Option.bind_some _ _).symm.trans H; rw [hy467]; with_reducible exact H2_) | (have H2_ := (Option.bind_some _ _).symm.trans H; with_reducible exact H2_) | with_reducible exact H | (rw [hy467]; exact H) | exact H
         have Ny467 := Aside0.mk hy467; clear hy467; have H' := Aside0.mk H; clear H; have hnb22 := NB464_465.out; have hnc22 := NB465_464.out; obtain ⟨hcz23_0, hcz23_1, hcz23_2, hfz23_0, hfz23_1, hfz23_2⟩ := cz3 BK464; have p21 : 0 ≤ (x10_2 : Int) := of_decide_eq_true (by first | (with_reducible assumption) | assumption); have q21 : (x10_2 : Int) < ((x465002_2.length : Int) : Int) := of_decide_eq_true (by first | (with_reducible assumption) | assumption); obtain ⟨go21, co21, eo21, gb21, gl21, cl21, HG21⟩ := Kd.R_form HO_465002.out (by omega); (first | cases eo21 | (injection eo21 with ea_ en_ ec_; (first | subst ea_ | (injection ea_ with ea_; subst ea_)); subst ec_; clear en_)); have GB21 := Aside0.mk gb21; have GG21 := Aside0.mk HG21; clear gb21 gl21 HG21; have HMgo21 := Aside0.mk (show (P0_2_ go21 ∨ w.heap.size ≤ go21) from (HO_465002.out.1 _ rfl)); obtain ⟨hx21_0, hf21_0⟩ := Kd.R_celln 0 HO_465002.out (x10_2 : Int) p21 q21; replace p21 := eq_true p21; replace q21 := eq_true q21; have HP24 := Kd.R_putg HO_465002.out (x10_2 : Int) (-77); go_wp2_with (first | ((with_reducible refine gate_store (t := 3) (p := 29) rfl ?_); refine store_event (t := 3) (p := 29) (v := ?vo_w25) (w1 := (wr.setCell ⟨go21, (x10_2 : Int).toNat, none⟩ (.int .i64 (-77)))) ?hg ?ho ?hn ?hr ?_; (case ho => rfl); (case hg => rfl); (case hn => rfl); (case hr => first | (go_simp; done) | (go_simp; rfl)); intro w25 hw; have hg : wr.grownBy w25 (some go21) := (by rw [hw]; exact HP24.2); have hp_ : Kd.R (Kd.int .i64) 3 w25 w0.heap.size (fun k_ => (P0_2_ k_ ∨ w.heap.size ≤ k_)) (.slice (some ⟨go21, 0, none⟩) x465002_2.length co6) y467 := (by rw [hw, Ny467.out]; exact HP24.1); clear HP24; replace BK464 := Aside0.mk (blk_grown (g := gb464) (o := .cells #[.int .i64 a0_0, .int .i64 a0_1, .slice (some ⟨go21, 0, none⟩) x465002_2.length co6] 24 (0, 0)) (nK BK464) hg (Kd.R_ne HO_465002.out BK464.out (by decide))); replace BK465 := Aside0.mk (blk_grown (g := gb465) (o := .cells #[.int .i64 a2_0, .int .i64 a2_1, .slice A2_2 l2_2.length c2_2] 24 (0, 0)) (nK BK465) hg (Kd.R_ne HO_465002.out BK465.out (by decide))); replace HB := Aside0.mk ((by rw [hw]; exact below_set (HB.out) GB21.out : Below w0.heap.size w0 w25)); replace HK := Aside0.mk (Kept.of_grown (S := (fun k_ => P0_2_ k_)) hg (by repeat (first | (with_reducible first | exact HK.out | apply Kept.alloc | apply Kept.drewN | apply Kept.drew | refine Kept.setCell ?_ (.inr GW464.out) _ | refine Kept.setCell ?_ (.inr GW465.out) _) | exact HK.out)) (fun k_ e_ => (HO_465002.out.1 k_ e_))); replace HO_465002 := Aside0.mk (hp_); clear hg hw hp_))
         (try simp only [← hl465002_2]); go_roundg k2
         case measure => have := HJ4.out; have := HK2.out; omega
         case rel => exact ⟨(wrap64 (x10_2 + 1)), (y467), (by first | rfl | (simp; done) | (simp [*]; done)), H', ⟨by have := HJ4.out; have := HK2.out; omega⟩, ⟨by (try simp only [hl465002_2]); (with_reducible repeat (first | apply Kd.R_alloc | apply Kd.R_drewN | apply Kd.R_drew)); exact HO_465002.out⟩, ⟨by (try simp only [hl465002_2]); (with_reducible repeat (first | refine blk_drewN ?_ _ | refine blk_drew ?_ | refine blk_alloc ?_ _)); exact BK464.out⟩, ⟨by (try simp only [hl465002_2]); (with_reducible repeat (first | refine blk_drewN ?_ _ | refine blk_drew ?_ | refine blk_alloc ?_ _)); exact BK465.out⟩, ⟨by repeat (first | (with_reducible first | exact HK.out | apply Kept.alloc | apply Kept.drewN | apply Kept.drew | refine Kept.setCell ?_ (.inr GW464.out) _ | refine Kept.setCell ?_ (.inr GW465.out) _) | exact HK.out)⟩, ⟨nC HB⟩⟩
       · rw [if_neg c20] at H; exact absurd H (by simp)
     · rw [if_neg c19] at H; have c19b0 : decide (x10_2 < (x465002_2.length : Int)) = false := decide_eq_false c19; clear c19; simp only [Option.some.injEq, Prod.mk.injEq] at H; obtain ⟨rfl, rfl⟩ := H; have hnb26 := NB464_465.out; have hnc26 := NB465_464.out; obtain ⟨hcz27_0, hcz27_1, hcz27_2, hfz27_0, hfz27_1, hfz27_2⟩ := cz3 BK464; go_wp2
       go_ret
       exact ⟨by first | rfl | (simp [errW_none, errW_some] <;> rfl) | (simp [*, errW_none, errW_some] <;> rfl), (by first | exact (nR HO_465002) | (simp only [hl465002_2]; exact (nR HO_465002))), by repeat (first | (with_reducible first | exact HB.out | apply below_alloc | apply pw_below_drewN | apply below_drew1 | refine below_set ?_ GE464.out | refine below_set ?_ GE465.out) | exact HB.out), by repeat (first | (with_reducible first | exact HK.out | apply Kept.alloc | apply Kept.drewN | apply Kept.drew | refine Kept.setCell ?_ (.inr GW464.out) _ | refine Kept.setCell ?_ (.inr GW465.out) _) | exact HK.out)⟩
def kimberlitelaw03_few.f (a0_0 : Int) (a0_1 : Int) (l0_2 : List Int) : Option (Bool) := some (decide ((l0_2.length : Int) ≤ 100))
set_option maxHeartbeats 8000000 in
set_option maxRecDepth 100000 in
theorem kimberlitelaw03_few.calls (a0_0 : Int) (a0_1 : Int) (A0_2 : Option Addr) (c0_2 : Nat) (l0_2 : List Int) (r : Bool) (w : World) (hr0_2 : Kd.C (Kd.int .i64) w A0_2 l0_2.length l0_2) (hc0_2 : l0_2.length ≤ c0_2) (h : kimberlitelaw03_few.f a0_0 a0_1 l0_2 = some r) :
 Calls Try.prog 22 #[.agg #[.int .i64 a0_0, .int .i64 a0_1, .slice A0_2 l0_2.length c0_2]] w fun e w' => e = .returned (.bool r) ∧ Below w.heap.size w w' := by
 have hu24 := Try.underlying24; have HR0_2 := Aside0.mk hr0_2; have HC0_2 := Aside0.mk hc0_2; clear hr0_2 hc0_2; have HB := Aside0.mk (Below.refl w.heap.size w); have H : (some (decide ((l0_2.length : Int) ≤ 100))) = some r := h; clear h; obtain rfl := Option.some.inj H; go_enter Try.func22, Try.ntmps22
 go_wp2_with (first | ((with_reducible refine gate_dst (N := 1) rfl ?_); refine box_event ?hg (N := 1) ?hd (cs := #[.int .i64 a0_0, .int .i64 a0_1, .slice A0_2 l0_2.length c0_2]) (t := 24) ?hr ?_; (case hd => rfl); (case hg => rfl); (case hr => first | (go_simp; done) | (go_simp; rfl)); intro gb468 hg w2 hbox hb; have BK468 := Aside0.mk (hbox); have GW468 := Aside0.mk ((by rw [hg]; exact (below_size (nC HB)) : w.heap.size ≤ gb468)); have GE468 := Aside0.mk ((by rw [hg]; exact (below_size (nC HB)) : w.heap.size ≤ gb468)); replace HB := Aside0.mk (below_step (nC HB) hb); clear hb hbox hg; obtain ⟨hcz3_0, hcz3_1, hcz3_2, hfz3_0, hfz3_1, hfz3_2⟩ := cz3 BK468))
 go_ret
 exact ⟨by first | rfl | (simp [errW_none, errW_some] <;> rfl) | (simp [*, errW_none, errW_some] <;> rfl), nC HB⟩
end Go.Proofs.Ytingjpcgehgiiaa.Pr
end
section
namespace Go.Proofs.Ytingjpcgehgiiaa.Pr
open Go.RowKit Go.Proofs.YtingjpcgehgiiaaW.PrintWords Go.Proofs.YtingjpcgehgiiaaW.PrintLast Go.Proofs.YtingjpcgehgiiaaW.PrintMore
set_option linter.unusedVariables false
set_option linter.unusedSimpArgs false
/-- A curve's box. -/
def Bx (W : World) (g : Nat) (x y : Int) (v : Value) : Prop := W.heap[g]? = some (.cells #[.int .i64 x, .int .i64 y, v] 24 (0, 0))
theorem Bx.lt {W : World} {g : Nat} {x y : Int} {v : Value} (h : Bx W g x y v) : g < W.heap.size := blk_lt h
theorem Bx.cells {W : World} {g : Nat} {x y : Int} {v : Value} (h : Bx W g x y v) : W.cell? ⟨g, 0, none⟩ = some (.int .i64 x) ∧ W.cell? ⟨g, 1, none⟩ = some (.int .i64 y) ∧ W.cell? ⟨g, 2, none⟩ = some v :=
  ⟨(blk_cell h 0).trans rfl, (blk_cell h 1).trans rfl, (blk_cell h 2).trans rfl⟩
theorem Bx.frozen {W : World} {g : Nat} {x y : Int} {v : Value} (h : Bx W g x y v) : W.frozen? ⟨g, 0, none⟩ = false ∧ W.frozen? ⟨g, 1, none⟩ = false ∧ W.frozen? ⟨g, 2, none⟩ = false :=
  ⟨blk_frozen h 0, blk_frozen h 1, blk_frozen h 2⟩
theorem Bx.below {W W' : World} {g : Nat} {x y : Int} {v : Value} (h : Bx W g x y v) (hb : Below W.heap.size W W') : Bx W' g x y v := blk_below h hb
def put3 (W : World) (g : Nat) (x y : Int) (v : Value) : World := ((W.setCell ⟨g, 0, none⟩ (.int .i64 x)).setCell ⟨g, 1, none⟩ (.int .i64 y)).setCell ⟨g, 2, none⟩ v
theorem Bx.put {W : World} {g : Nat} {x y : Int} {v : Value} (h : Bx W g x y v) (x' y' : Int) (v' : Value) : Bx (put3 W g x' y' v') g x' y' v' := blk_put (blk_put (blk_put h 0 _ rfl) 1 _ rfl) 2 _ rfl
theorem Bx.far {W : World} {g i : Nat} {x y : Int} {v : Value} (h : Bx W g x y v) (hn : g ≠ i) (x' y' : Int) (v' : Value) : Bx (put3 W i x' y' v') g x y v := blk_far (p := ⟨i, 2, none⟩) (blk_far (p := ⟨i, 1, none⟩) (blk_far (p := ⟨i, 0, none⟩) h hn _) hn _) hn _
theorem R_put3 {W : World} {base g : Nat} {ok : Nat → Prop} {v u : Value} {l : List Int} {x y : Int} (h : Kd.R (Kd.int .i64) 3 W base ok u l) (hb : Bx W g x y v) (x' y' : Int) (v' : Value) : Kd.R (Kd.int .i64) 3 (put3 W g x' y' v') base ok u l :=
  Kd.R_mono (Kd.R_far (p := ⟨g, 2, none⟩) (Kd.R_far (p := ⟨g, 1, none⟩) (Kd.R_far (p := ⟨g, 0, none⟩) (Kd.R_types h hb (by decide)) (fun _ hk => hk.2) _) (fun _ hk => hk.2) _) (fun _ hk => hk.2) _) (fun _ hk => hk.1)
structure Mk2 (w : World) (a b : S24) (Aa Ab : Option Addr) (ca cb : Nat) (va vb : Value) (g5 g6 g11 g12 g13 g15 : Nat) (W : World) (x y : Int) (v : Value) (x' y' : Int) (v' : Value) : Prop where
  HB : Below w.heap.size w W
  B5 : Bx W g5 a.f0 a.f1 (.slice Aa a.f2.length ca)
  B6 : Bx W g6 b.f0 b.f1 (.slice Ab b.f2.length cb)
  B11 : Bx W g11 a.f0 a.f1 va
  B12 : Bx W g12 b.f0 b.f1 vb
  X13 : Bx W g13 x y v
  X15 : Bx W g15 x' y' v'
  R1 : Kd.R (Kd.int .i64) 3 W w.heap.size (fun _ => True) va a.f2
  R2 : Kd.R (Kd.int .i64) 3 W w.heap.size (fun _ => True) vb b.f2
  N13 : g5 ≠ g13 ∧ g6 ≠ g13 ∧ g11 ≠ g13 ∧ g12 ≠ g13 ∧ g15 ≠ g13
  N15 : g5 ≠ g15 ∧ g6 ≠ g15 ∧ g11 ≠ g15 ∧ g12 ≠ g15 ∧ g13 ≠ g15
  E13 : w.heap.size ≤ g13
  E15 : w.heap.size ≤ g15
section
variable {w : World} {a b : S24} {Aa Ab : Option Addr} {ca cb : Nat} {va vb : Value} {g5 g6 g11 g12 g13 g15 : Nat} {W W' : World} {x y : Int} {v : Value} {x' y' : Int} {v' : Value}
theorem Mk2.call (M : Mk2 w a b Aa Ab ca cb va vb g5 g6 g11 g12 g13 g15 W x y v x' y' v') (hb : Below W.heap.size W W') : Mk2 w a b Aa Ab ca cb va vb g5 g6 g11 g12 g13 g15 W' x y v x' y' v' :=
  ⟨below_step M.HB hb, M.B5.below hb, M.B6.below hb, M.B11.below hb, M.B12.below hb, M.X13.below hb, M.X15.below hb, Kd.R_below M.R1 hb, Kd.R_below M.R2 hb, M.N13, M.N15, M.E13, M.E15⟩
theorem Mk2.put13 (M : Mk2 w a b Aa Ab ca cb va vb g5 g6 g11 g12 g13 g15 W x y v x' y' v') (r s : Int) (u : Value) : Mk2 w a b Aa Ab ca cb va vb g5 g6 g11 g12 g13 g15 (put3 W g13 r s u) r s u x' y' v' :=
  ⟨below_set (below_set (below_set M.HB M.E13) M.E13) M.E13, M.B5.far M.N13.1 _ _ _, M.B6.far M.N13.2.1 _ _ _, M.B11.far M.N13.2.2.1 _ _ _, M.B12.far M.N13.2.2.2.1 _ _ _, M.X13.put _ _ _, M.X15.far M.N13.2.2.2.2 _ _ _, R_put3 M.R1 M.X13 _ _ _, R_put3 M.R2 M.X13 _ _ _, M.N13, M.N15, M.E13, M.E15⟩
theorem Mk2.put15 (M : Mk2 w a b Aa Ab ca cb va vb g5 g6 g11 g12 g13 g15 W x y v x' y' v') (r s : Int) (u : Value) : Mk2 w a b Aa Ab ca cb va vb g5 g6 g11 g12 g13 g15 (put3 W g15 r s u) x y v r s u :=
  ⟨below_set (below_set (below_set M.HB M.E15) M.E15) M.E15, M.B5.far M.N15.1 _ _ _, M.B6.far M.N15.2.1 _ _ _, M.B11.far M.N15.2.2.1 _ _ _, M.B12.far M.N15.2.2.2.1 _ _ _, M.X13.far M.N15.2.2.2.2 _ _ _, M.X15.put _ _ _, R_put3 M.R1 M.X15 _ _ _, R_put3 M.R2 M.X15 _ _ _, M.N13, M.N15, M.E13, M.E15⟩
/-- The rows that were there ahead of a call. -/
theorem Mk2.older (M : Mk2 w a b Aa Ab ca cb va vb g5 g6 g11 g12 g13 g15 W x y v x' y' v') : (∀ k, va.ownBlock = some k → k < W.heap.size) ∧ (∀ k, vb.ownBlock = some k → k < W.heap.size) :=
  ⟨fun k e => Kd.R_lt M.R1 k e, fun k e => Kd.R_lt M.R2 k e⟩
theorem Mk2.told (M : Mk2 w a b Aa Ab ca cb va vb g5 g6 g11 g12 g13 g15 W x y v x' y' v') {N : Nat} (hN : (∀ k, va.ownBlock = some k → k < N) ∧ (∀ k, vb.ownBlock = some k → k < N)) {ok : Nat → Prop} {l : List Int} (hR : Kd.R (Kd.int .i64) 3 W N ok v l)
    (hk : Kept W W' (fun k => some k = v.ownBlock)) (hb : Below w.heap.size w W') : Mk2 w a b Aa Ab ca cb va vb g5 g6 g11 g12 g13 g15 W' x y v x' y' v' := by
  have hB := Kd.R_base hR
  have blk : ∀ {g : Nat} {p q : Int} {u : Value}, Bx W g p q u → Bx W' g p q u := fun {g p q u} h => (hk.2 g h.lt (fun e => Kd.R_ne hR h (by decide) e)).trans h
  have row : ∀ {u : Value} {m : List Int}, Kd.R (Kd.int .i64) 3 W w.heap.size (fun _ => True) u m → (∀ k, u.ownBlock = some k → k < N) → Kd.R (Kd.int .i64) 3 W' w.heap.size (fun _ => True) u m := fun {u m} h hl =>
    Kd.R_mono (Kd.R_kept (Kd.R_reok rfl h (fun k e => hl k e)) hk (fun k hk' e => by
      have h1 := hB k e.symm
      omega)) (fun _ _ => trivial)
  exact ⟨hb, blk M.B5, blk M.B6, blk M.B11, blk M.B12, blk M.X13, blk M.X15, row M.R1 hN.1, row M.R2 hN.2, M.N13, M.N15, M.E13, M.E15⟩
end
end Go.Proofs.Ytingjpcgehgiiaa.Pr
end
section
namespace Go.Proofs.Ytingjpcgehgiiaa.Pr
open Go.RowKit Go.Shelf Go.Proofs.YtingjpcgehgiiaaW.PrintWords Go.Proofs.YtingjpcgehgiiaaW.PrintLast Go.Proofs.YtingjpcgehgiiaaW.PrintMore
set_option linter.unusedVariables false
set_option linter.unusedSimpArgs false
/-- What is asked of a predicate on curves: it tells p x, and keeps what lay there. -/
def PredC (g : Nat) (lb : Array Value) (p : S24 → Bool) (w : World) : Prop :=
  ∀ (W : World) (x : S24) (A : Option Addr) (c : Nat), Below w.heap.size w W → Kd.C (Kd.int .i64) W A x.f2.length x.f2 → x.f2.length ≤ c → Calls Try.prog g (#[.agg #[.int .i64 x.f0, .int .i64 x.f1, .slice A x.f2.length c]] ++ lb) W fun e w' => e = .returned (.bool (p x)) ∧ Below w.heap.size w w'
set_option maxHeartbeats 1000000 in
set_option maxRecDepth 100000 in
theorem indexFunc_curve (g : Nat) (lb : Array Value) (p : S24 → Bool) (eg : ∀ args w, (callFunc g args).run Try.prog w = .ok (.enter g args) w) (A0 : Option Addr) (c0 : Nat) (l0 : List S24) (w : World) (hr0 : Kd.C k24 w A0 l0.length l0) (hp : PredC g lb p w) :
    Calls Try.prog 84 #[.slice A0 l0.length c0, .func (.func g) #[] lb] w fun e w' => e = .returned (.int .i64 (idxS p l0)) ∧ Below w.heap.size w w' := by
  have hm : l0.length ≤ 9223372036854775807 := hr0.2.1
  have HR0 := Aside0.mk hr0
  have HP := Aside0.mk hp
  have HM := Aside0.mk hm
  clear hr0 hp hm
  have hu24 := Try.underlying24
  go_enter Try.func84, Try.ntmps84
  go_wp2
  go_loopg [5, 8] l0.length (fun gg _ s8 wr => ∃ kk : Nat, kk ≤ l0.length ∧ l0.length - kk ≤ gg ∧ s8 = .int .i64 kk ∧ Aside0 (Below w.heap.size w wr) ∧ Aside0 (∀ j, j < kk → p (l0.getD j z24) = false))
  case atStart => exact ⟨0, Nat.zero_le _, by omega, rfl, ⟨Below.refl _ w⟩, ⟨fun j hj => absurd hj (Nat.not_lt_zero _)⟩⟩
  case round =>
    obtain ⟨kk, hkk, hg, rfl, HB, HA⟩ := hrel
    have hm2 := HM.out
    by_cases hlt : kk < l0.length
    · have hltz : (kk : Int) < (l0.length : Int) := by omega
      obtain ⟨ad, A2, c2, e, hx0, hx1, hx2, hl2, hc2⟩ := at_T24 (Kd.C_below HR0.out HB.out) (kk : Int) (by omega) hltz
      subst e
      have er : rd_T24 l0 (kk : Int) = l0.getD kk z24 := by unfold rd_T24; rw [Int.toNat_natCast]
      rw [er] at hx0 hx1 hx2 hl2 hc2
      rw [Int.toNat_natCast] at hx0 hx1 hx2
      have hcall := HP.out wr (l0.getD kk z24) A2 c2 HB.out hc2 hl2
      clear er hc2
      generalize hy : l0.getD kk z24 = y at hx0 hx1 hx2 hl2 hcall
      have HY := Aside0.mk hy
      clear hy
      cases hq : p y with
      | true =>
        rw [hq] at hcall
        have HQ := Aside0.mk hq
        clear hq
        go_wp2_with fail
        refine hcall.mono ?_
        rintro e w' ⟨rfl, hb'⟩
        go_wp2
        go_ret
        exact ⟨by rw [idxS_hit p l0 z24 kk hlt (by rw [HY.out]; exact HQ.out) HA.out]; rfl, hb'⟩
      | false =>
        rw [hq] at hcall
        have HQ := Aside0.mk hq
        clear hq
        go_wp2_with fail
        refine hcall.mono ?_
        rintro e w' ⟨rfl, hb'⟩
        go_wp2
        go_roundg (l0.length - (kk + 1))
        case measure => omega
        case rel =>
          refine ⟨kk + 1, by omega, by omega, by go_num, ⟨hb'⟩, ⟨fun j hj => ?_⟩⟩
          by_cases e : j = kk
          · subst e
            rw [HY.out]; exact HQ.out
          · exact HA.out j (by omega)
    · have hltz : ¬ (kk : Int) < (l0.length : Int) := by omega
      go_wp2
      go_ret
      exact ⟨by rw [idxS_miss p l0 z24 (fun j hj => HA.out j (by omega))]; rfl, HB.out⟩
set_option maxHeartbeats 1000000 in
theorem containsFunc_curve (g : Nat) (lb : Array Value) (p : S24 → Bool) (eg : ∀ args w, (callFunc g args).run Try.prog w = .ok (.enter g args) w) (A0 : Option Addr) (c0 : Nat) (l0 : List S24) (w : World) (hr0 : Kd.C k24 w A0 l0.length l0) (hp : PredC g lb p w) :
    Calls Try.prog 56 #[.slice A0 l0.length c0, .func (.func g) #[] lb] w fun e w' => e = .returned (.bool (l0.any p)) ∧ Below w.heap.size w w' := by
  rw [← idxS_any]
  have HC := Aside0.mk (fun W => indexFunc_curve g lb p eg A0 c0 l0 W)
  go_enter Try.func56, Try.ntmps56
  go_wp2_with (go_at_call 84; refine (HC.out _ hr0 hp).mono ?_; rintro e w' ⟨rfl, hb'⟩)
  go_ret
  exact ⟨rfl, hb'⟩
theorem enter57 : ∀ (args : Array Value) (w : World), (callFunc 57 args).run Try.prog w = .ok (.enter 57 args) w := enters_of Try.func57 (by kernel_rfl) rfl
set_option maxHeartbeats 1000000 in
theorem pred_valid (w : World) : PredC 57 #[] (fun x => !validC x.f0 x.f1 x.f2) w := by
  intro W x A c hB hc hl
  have HC := Aside0.mk hc
  have HL := Aside0.mk hl
  clear hc hl
  change Calls Try.prog 57 #[.agg #[.int .i64 x.f0, .int .i64 x.f1, .slice A x.f2.length c]] W _
  go_enter Try.func57, Try.ntmps57
  go_wp2_with (first | ((with_reducible refine gate_dst (N := 1) rfl ?_); refine box_event ?hg (N := 1) ?hd (cs := #[.int .i64 x.f0, .int .i64 x.f1, .slice A x.f2.length c]) (t := 24) ?hr ?_; (case hd => rfl); (case hg => rfl); (case hr => first | (go_simp; done) | (go_simp; rfl)); intro gb hg w1 hbox hb; have HB1 := Aside0.mk hb; have hz0 : w1.cell? ⟨gb, 0, none⟩ = some (.int .i64 x.f0) := (blk_cell hbox 0).trans rfl; have hz1 : w1.cell? ⟨gb, 1, none⟩ = some (.int .i64 x.f1) := (blk_cell hbox 1).trans rfl; have hz2 : w1.cell? ⟨gb, 2, none⟩ = some (.slice A x.f2.length c) := (blk_cell hbox 2).trans rfl; clear hb hg hbox))
  go_wp2_with (go_at_call 16; (with_reducible refine (curve_Valid.calls x.f0 x.f1 _ _ x.f2 _ _ (Kd.C_below HC.out HB1.out) HL.out rfl).mono ?_); rintro e w2 ⟨rfl, hb2⟩)
  go_ret
  exact ⟨rfl, below_then hB hB.size (below_then HB1.out HB1.out.size hb2)⟩
/-- A share: a curve and the number at which it is, in a block of its own. -/
def ShareAt (W : World) (b : Nat) (c : S24) (x : Int) : Prop := ∃ A cap, W.heap[b]? = some (.cells #[.int .i64 c.f0, .int .i64 c.f1, .slice A c.f2.length cap, .int .i64 x] 69 (0, 0)) ∧ c.f2.length ≤ cap ∧ Kd.C (Kd.int .i64) W A c.f2.length c.f2
def nextR (c : S24) (x : Int) : Int × Bool := if wrap64 (x - c.f0) < (c.f2.length : Int) then (rd c.f2 (wrap64 (x - c.f0)), true) else (0, false)
set_option maxHeartbeats 1000000 in
set_option maxRecDepth 100000 in
theorem next_calls (b : Nat) (c : S24) (x : Int) (W : World) (h : ShareAt W b c x) (h0 : 0 ≤ wrap64 (x - c.f0)) : Calls Try.prog 60 #[.pointer (some ⟨b, 0, none⟩)] W fun e w' => e = .returned (.tuple #[.int .i64 (nextR c x).1, .bool (nextR c x).2]) ∧ Drawn0 W w' := by
  obtain ⟨A, cap, hb, hl, hc⟩ := h
  have hz0 : W.cell? ⟨b, 0, none⟩ = some (.int .i64 c.f0) := (blk_cell hb 0).trans rfl
  have hz1 : W.cell? ⟨b, 1, none⟩ = some (.int .i64 c.f1) := (blk_cell hb 1).trans rfl
  have hz2 : W.cell? ⟨b, 2, none⟩ = some (.slice A c.f2.length cap) := (blk_cell hb 2).trans rfl
  have hz3 : W.cell? ⟨b, 3, none⟩ = some (.int .i64 x) := (blk_cell hb 3).trans rfl
  have hu69 := Try.underlying69
  have hu24 := Try.underlying24
  have mixed : Try.prog.follows .mixedOrders = true := by kernel_rfl
  obtain ⟨n, hn⟩ : ∃ n, wrap64 (x - c.f0) = n := ⟨_, rfl⟩
  have hnw : IntKind.i64.wrap (x - c.f0) = n := (i64_w _).trans hn
  rw [hn] at h0
  have HC := Aside0.mk hc
  unfold nextR
  rw [hn]
  clear hn hc
  by_cases hlt : n < (c.f2.length : Int)
  · rw [if_pos hlt]
    obtain ⟨ad, e, hx⟩ := Kd.at_int HC.out n h0 hlt
    subst e
    go_enter Try.func60, Try.ntmps60
    go_wp2
    go_quiet (fail)
    go_wp2
    go_ret2
    exact ⟨rfl, ⟨⟨_, rfl⟩⟩⟩
  · rw [if_neg hlt]
    go_enter Try.func60, Try.ntmps60
    go_wp2
    go_quiet (fail)
    go_wp2
    go_ret2
    exact ⟨rfl, ⟨⟨_, rfl⟩⟩⟩
/-- A pointer to a block's head. -/
def kP : Kd Nat := Kd.scalar (fun b => .pointer (some ⟨b, 0, none⟩)) (fun _ => rfl)
theorem at_P {w : World} {A : Option Addr} {n : Nat} {bs : List Nat} (h : Kd.C kP w A n bs) (i : Nat) (h1 : i < n) : ∃ ad, A = some ad ∧ w.cell? (ad.add i) = some (.pointer (some ⟨bs.getD i 0, 0, none⟩)) := by
  obtain ⟨ad, c, e, _, hK, hc⟩ := Kd.C_get h 0 (i : Int) (by omega) (by omega)
  have hk : c = [.pointer (some ⟨bs.getD i 0, 0, none⟩)] := hK
  subst hk
  refine ⟨ad, e, ?_⟩
  have := hc 0 _ rfl
  simpa [kP, Kd.scalar] using this
theorem ShareAt.below {W W' : World} {b : Nat} {c : S24} {x : Int} (h : ShareAt W b c x) (hb : Below W.heap.size W W') : ShareAt W' b c x := by
  obtain ⟨A, cap, h1, h2, h3⟩ := h
  exact ⟨A, cap, blk_below h1 hb, h2, Kd.C_below h3 hb⟩
abbrev Shr := List (S24 × Int)
def zS : S24 × Int := (z24, 0)
def bestStep (i : Nat) (st : Int × Int) (r : Int × Bool) : Int × Int := if (r.2 && (decide (st.1 < 0) || decide (r.1 ≤ st.2))) = true then ((i : Int), r.1) else st
def bestTo (sh : Shr) : Nat → Int × Int
  | 0 => (-1, 0)
  | k + 1 => bestStep k (bestTo sh k) (nextR (sh.getD k zS).1 (sh.getD k zS).2)
/-- The shares lie where the list of blocks says. -/
def Shares (W : World) (bs : List Nat) (sh : Shr) : Prop := bs.length = sh.length ∧ ∀ i, i < sh.length → ShareAt W (bs.getD i 0) (sh.getD i zS).1 (sh.getD i zS).2 ∧ 0 ≤ wrap64 ((sh.getD i zS).2 - (sh.getD i zS).1.f0)
set_option maxHeartbeats 4000000 in
set_option maxRecDepth 100000 in
theorem best_calls (A : Option Addr) (c0 : Nat) (bs : List Nat) (sh : Shr) (W : World) (hr : Kd.C kP W A bs.length bs) (hs : Shares W bs sh) :
    Calls Try.prog 59 #[.slice A bs.length c0, .func (.func 60) #[] #[]] W fun e w' => e = .returned (.int .i64 (bestTo sh sh.length).1) ∧ Drawn0 W w' := by
  have hm : bs.length ≤ 9223372036854775807 := hr.2.1
  have HR := Aside0.mk hr
  have HS := Aside0.mk hs.2
  have HL := Aside0.mk hs.1
  have HM := Aside0.mk hm
  clear hr hs hm
  go_enter Try.func59, Try.ntmps59
  go_wp2
  go_loopg [5, 6, 13] bs.length (fun gg v5 v6 v13 wr => ∃ kk : Nat, kk ≤ bs.length ∧ bs.length - kk ≤ gg ∧ v13 = .int .i64 kk ∧ v5 = .int .i64 (bestTo sh kk).1 ∧ v6 = .int .i64 (bestTo sh kk).2 ∧ Aside0 (Drawn0 W wr))
  case atStart => exact ⟨0, Nat.zero_le _, by omega, rfl, rfl, rfl, ⟨Drawn0.refl _⟩⟩
  case round =>
    obtain ⟨kk, hkk, hg, rfl, rfl, rfl, HD⟩ := hrel
    have hm2 := HM.out
    by_cases hlt : kk < bs.length
    · have hltz : (kk : Int) < (bs.length : Int) := by omega
      obtain ⟨ad, e, hx⟩ := at_P (Kd.C_below HR.out HD.out.below) kk hlt
      subst e
      obtain ⟨s1, s2⟩ := HS.out kk (by rw [← HL.out]; exact hlt)
      have hcall := next_calls _ _ _ wr (s1.below HD.out.below) s2
      have HE := Aside0.mk (show bestTo sh (kk + 1) = bestStep kk (bestTo sh kk) (nextR (sh.getD kk zS).1 (sh.getD kk zS).2) from rfl)
      clear s1 s2
      generalize bs.getD kk 0 = b at hx hcall
      generalize nextR (sh.getD kk zS).1 (sh.getD kk zS).2 = nr at hcall HE
      generalize bestTo sh kk = st at HE
      obtain ⟨n1, n2⟩ := nr
      obtain ⟨st1, st2⟩ := st
      have HC := Aside0.mk hcall
      clear hcall
      have e1 : ∀ (m1 : Int), bestStep kk (st1, st2) (m1, false) = (st1, st2) := fun _ => rfl
      have E1 := Aside0.mk e1
      clear e1
      by_cases h1 : st1 < 0
      · have E2 := Aside0.mk (show ∀ m1, bestStep kk (st1, st2) (m1, true) = ((kk : Int), m1) from fun m1 => by unfold bestStep; rw [decide_eq_true h1]; rfl)
        go_wp2_with (go_at_call 60; (with_reducible refine HC.out.mono ?_); rintro e w1 ⟨rfl, hd⟩; obtain ⟨⟨q, hq⟩⟩ := hd; have hdd : Drawn0 W w1 := (by rw [hq]; exact HD.out.step q); clear hq; cases n2)
        · go_wp2
          go_roundg (bs.length - (kk + 1))
          case measure => omega
          case rel => exact ⟨kk + 1, by omega, by omega, by go_num, by rw [HE.out, E1.out], by rw [HE.out, E1.out], ⟨hdd⟩⟩
        · go_wp2
          go_roundg (bs.length - (kk + 1))
          case measure => omega
          case rel => exact ⟨kk + 1, by omega, by omega, by go_num, by rw [HE.out, E2.out], by rw [HE.out, E2.out], ⟨hdd⟩⟩
      · by_cases h2 : n1 ≤ st2
        · have E2 := Aside0.mk (show bestStep kk (st1, st2) (n1, true) = ((kk : Int), n1) by unfold bestStep; rw [decide_eq_false h1, decide_eq_true h2]; rfl)
          go_wp2_with (go_at_call 60; (with_reducible refine HC.out.mono ?_); rintro e w1 ⟨rfl, hd⟩; obtain ⟨⟨q, hq⟩⟩ := hd; have hdd : Drawn0 W w1 := (by rw [hq]; exact HD.out.step q); clear hq; cases n2)
          · go_wp2
            go_roundg (bs.length - (kk + 1))
            case measure => omega
            case rel => exact ⟨kk + 1, by omega, by omega, by go_num, by rw [HE.out, E1.out], by rw [HE.out, E1.out], ⟨hdd⟩⟩
          · go_wp2
            go_roundg (bs.length - (kk + 1))
            case measure => omega
            case rel => exact ⟨kk + 1, by omega, by omega, by go_num, by rw [HE.out, E2.out], by rw [HE.out, E2.out], ⟨hdd⟩⟩
        · have E2 := Aside0.mk (show bestStep kk (st1, st2) (n1, true) = (st1, st2) by unfold bestStep; rw [decide_eq_false h1, decide_eq_false h2]; rfl)
          go_wp2_with (go_at_call 60; (with_reducible refine HC.out.mono ?_); rintro e w1 ⟨rfl, hd⟩; obtain ⟨⟨q, hq⟩⟩ := hd; have hdd : Drawn0 W w1 := (by rw [hq]; exact HD.out.step q); clear hq; cases n2)
          · go_wp2
            go_roundg (bs.length - (kk + 1))
            case measure => omega
            case rel => exact ⟨kk + 1, by omega, by omega, by go_num, by rw [HE.out, E1.out], by rw [HE.out, E1.out], ⟨hdd⟩⟩
          · go_wp2
            go_roundg (bs.length - (kk + 1))
            case measure => omega
            case rel => exact ⟨kk + 1, by omega, by omega, by go_num, by rw [HE.out, E2.out], by rw [HE.out, E2.out], ⟨hdd⟩⟩
    · have hltz : ¬ (kk : Int) < (bs.length : Int) := by omega
      obtain rfl : kk = bs.length := by omega
      go_wp2
      go_ret
      exact ⟨by rw [HL.out]; rfl, HD.out⟩
end Go.Proofs.Ytingjpcgehgiiaa.Pr
end
section
namespace Go.Proofs.Ytingjpcgehgiiaa.Pr
open Go.RowKit Go.Proofs.YtingjpcgehgiiaaW.PrintWords Go.Proofs.YtingjpcgehgiiaaW.PrintLast Go.Proofs.YtingjpcgehgiiaaW.PrintMore
set_option linter.unusedVariables false
set_option linter.unusedSimpArgs false
def addAll (v : Int) (l : List Int) : Int := l.foldl (fun v s => wrap64 (v + s)) v
def curve_at.f (a0_0 : Int) (a0_1 : Int) (l0_2 : List Int) (a1 : Int) : Option Int :=
  if 0 ≤ wrap64 (a1 - a0_0) ∧ wrap64 (a1 - a0_0) ≤ (l0_2.length : Int) then some (addAll a0_1 (l0_2.take (wrap64 (a1 - a0_0)).toNat)) else none
theorem addAll_succ (v : Int) (l : List Int) (k : Nat) (h : k < l.length) : addAll v (l.take (k + 1)) = wrap64 (addAll v (l.take k) + rd l (k : Int)) := by
  unfold addAll rd
  rw [List.take_add_one, List.getElem?_eq_getElem h, List.foldl_append]
  simp [List.getD_eq_getElem?_getD, List.getElem?_eq_getElem h]
set_option maxHeartbeats 4000000 in
set_option maxRecDepth 100000 in
theorem curve_at.calls (a0_0 : Int) (a0_1 : Int) (A0_2 : Option Addr) (c0_2 : Nat) (l0_2 : List Int) (a1 : Int) (r : Int) (w : World) (hr0 : Kd.C (Kd.int .i64) w A0_2 l0_2.length l0_2) (hc0 : l0_2.length ≤ c0_2) (h : curve_at.f a0_0 a0_1 l0_2 a1 = some r) :
    Calls Try.prog 61 #[.agg #[.int .i64 a0_0, .int .i64 a0_1, .slice A0_2 l0_2.length c0_2], .int .i64 a1] w fun e w' => e = .returned (.int .i64 r) ∧ Below w.heap.size w w' := by
  unfold curve_at.f at h
  split at h
  · rename_i hin
    injection h with h
    obtain ⟨i0, hi, _, hsz, _⟩ := info_parts info3
    obtain ⟨n, hn⟩ : ∃ n, wrap64 (a1 - a0_0) = n := ⟨_, rfl⟩
    have hnw : IntKind.i64.wrap (a1 - a0_0) = n := (i64_w _).trans hn
    rw [hn] at hin h
    obtain ⟨hcut, hA, hC⟩ := print_take_of (P := Try.prog) (Value.int .i64) 0 22 3 .i64 Try.underlying22 hi hsz A0_2 c0_2 l0_2 n hin.1 hin.2 hc0
    have HR := Aside0.mk (Kd.C_of_reads (h1 := fun _ => rfl) (hA _ (Kd.reads_of_C hr0)))
    have HRb := Aside0.mk hr0.2.1
    have hlen : (l0_2.take n.toNat).length ≤ l0_2.length := by rw [List.length_take]; exact Nat.min_le_right _ _
    have hm : (l0_2.take n.toNat).length ≤ 9223372036854775807 := Nat.le_trans hlen hr0.2.1
    generalize l0_2.take n.toNat = lt at hcut h HR hm
    have HH := Aside0.mk h
    have HB := Aside0.mk (Below.refl w.heap.size w)
    clear h hA hC hi hsz hin hlen hr0 hn HRb
    go_enter Try.func61, Try.ntmps61
    go_wp2_with ((with_reducible refine gate_dst (N := 2) rfl ?_); refine box_event ?hg (N := 2) ?hd (cs := #[.int .i64 a0_0, .int .i64 a0_1, .slice A0_2 l0_2.length c0_2]) (t := 24) ?hr ?_; (case hd => rfl); (case hg => rfl); (case hr => first | (go_simp; done) | (go_simp; rfl)); intro gb hg w1 hbox hb; have HB1 := Aside0.mk hb; have hz0 : w1.cell? ⟨gb, 0, none⟩ = some (.int .i64 a0_0) := (blk_cell hbox 0).trans rfl; have hz1 : w1.cell? ⟨gb, 1, none⟩ = some (.int .i64 a0_1) := (blk_cell hbox 1).trans rfl; have hz2 : w1.cell? ⟨gb, 2, none⟩ = some (.slice A0_2 l0_2.length c0_2) := (blk_cell hbox 2).trans rfl; clear hb hg hbox)
    go_loopg [5, 18] lt.length (fun gg v5 v18 wr => ∃ kk : Nat, kk ≤ lt.length ∧ lt.length - kk ≤ gg ∧ v5 = .int .i64 (addAll a0_1 (lt.take kk)) ∧ v18 = .int .i64 kk ∧ wr = w1)
    case atStart => exact ⟨0, Nat.zero_le _, by omega, by simp [addAll], rfl, rfl⟩
    case round =>
      obtain ⟨kk, hkk, hg, rfl, rfl, rfl⟩ := hrel
      by_cases hlt : kk < lt.length
      · have hltz : (kk : Int) < (lt.length : Int) := by omega
        obtain ⟨ad, e, hx⟩ := Kd.at_int (Kd.C_below HR.out HB1.out) (kk : Int) (by omega) hltz
        subst e
        rw [Int.toNat_natCast] at hx
        have HS := Aside0.mk (addAll_succ a0_1 lt kk hlt)
        go_wp2
        go_roundg (lt.length - (kk + 1))
        case measure => omega
        case rel => exact ⟨kk + 1, by omega, by omega, by first | (rw [HS.out]; done) | (rw [HS.out]; rfl) | (rw [HS.out]; simp only [i64_w]), by go_num, rfl⟩
      · have hltz : ¬ (kk : Int) < (lt.length : Int) := by omega
        obtain rfl : kk = lt.length := by omega
        go_wp2
        go_ret
        exact ⟨by rw [← HH.out]; first | rfl | simp, HB1.out⟩
  · cases h
end Go.Proofs.Ytingjpcgehgiiaa.Pr
end
section
namespace Go.Proofs.Ytingjpcgehgiiaa.Pr
open Go.RowKit Go.Proofs.YtingjpcgehgiiaaW.PrintWords Go.Proofs.YtingjpcgehgiiaaW.PrintLast Go.Proofs.YtingjpcgehgiiaaW.PrintMore
set_option linter.unusedVariables false
set_option linter.unusedSimpArgs false
def nextAt (sh : Shr) (j : Nat) : Int × Bool := nextR (sh.getD j zS).1 (sh.getD j zS).2
theorem bestTo_spec (sh : Shr) : ∀ k, ((bestTo sh k).1 = -1 ∧ ∀ j, j < k → (nextAt sh j).2 = false) ∨ ∃ j, j < k ∧ (bestTo sh k).1 = (j : Int) ∧ (nextAt sh j).2 = true
  | 0 => .inl ⟨rfl, fun j hj => absurd hj (Nat.not_lt_zero _)⟩
  | k + 1 => by
    have ih := bestTo_spec sh k
    have e : bestTo sh (k + 1) = bestStep k (bestTo sh k) (nextAt sh k) := rfl
    rw [e]
    unfold bestStep
    by_cases hc : ((nextAt sh k).2 && (decide ((bestTo sh k).1 < 0) || decide ((nextAt sh k).1 ≤ (bestTo sh k).2))) = true
    · rw [if_pos hc]
      exact .inr ⟨k, Nat.lt_succ_self k, rfl, by simp only [Bool.and_eq_true] at hc; exact hc.1⟩
    · rw [if_neg hc]
      rcases ih with ⟨h1, h2⟩ | ⟨j, h1, h2, h3⟩
      · refine .inl ⟨h1, fun j hj => ?_⟩
        rcases Nat.lt_succ_iff_lt_or_eq.1 hj with hj | rfl
        · exact h2 j hj
        · rw [h1] at hc
          cases hn : (nextAt sh j).2 with
          | false => rfl
          | true => rw [hn] at hc; simp at hc
      · exact .inr ⟨j, Nat.lt_succ_of_lt h1, h2, h3⟩
/-- A share in its curve's domain, of a valid curve. -/
def GoodC (p : S24 × Int) : Prop := validC p.1.f0 p.1.f1 p.1.f2 = true ∧ p.1.f0 ≤ p.2 ∧ p.2 ≤ p.1.f0 + (p.1.f2.length : Int)
theorem validC_parts {a0 a1 : Int} {l : List Int} (h : validC a0 a1 l = true) : -1048576 ≤ a0 ∧ a0 ≤ 1048576 ∧ -1099511627776 ≤ a1 ∧ a1 ≤ 1099511627776 ∧ l.length ≤ 64 ∧ sortedI l = true ∧ ∀ s ∈ l, -1048576 ≤ s ∧ s ≤ 1048576 := by
  unfold validC inB at h
  simp only [Bool.and_eq_true, decide_eq_true_eq] at h
  obtain ⟨⟨h1, h2⟩, ⟨h3, h4⟩, h5, h6, h7⟩ := h
  refine ⟨h1, h2, h3, h4, h5, h6, fun s hs => ?_⟩
  simp only [Bool.not_eq_true', List.any_eq_false] at h7
  have := h7 s hs
  simpa using this
theorem good_off {p : S24 × Int} (h : GoodC p) : wrap64 (p.2 - p.1.f0) = p.2 - p.1.f0 ∧ 0 ≤ p.2 - p.1.f0 ∧ p.2 - p.1.f0 ≤ (p.1.f2.length : Int) := by
  obtain ⟨hv, h1, h2⟩ := h
  obtain ⟨v1, v2, _, _, v5, _⟩ := validC_parts hv
  unfold wrap64
  omega
theorem next_more {p : S24 × Int} (h : GoodC p) : (nextR p.1 p.2).2 = decide (p.2 < p.1.f0 + (p.1.f2.length : Int)) := by
  obtain ⟨e, h1, h2⟩ := good_off h
  unfold nextR
  rw [e]
  by_cases hc : p.2 - p.1.f0 < (p.1.f2.length : Int)
  · rw [if_pos hc, decide_eq_true (by omega)]
  · rw [if_neg hc, decide_eq_false (by omega)]
def GoodS (sh : Shr) : Prop := ∀ p ∈ sh, GoodC p
def sumX (sh : Shr) : Int := (sh.map (fun p => p.2)).sum
def sumHi (sh : Shr) : Int := (sh.map (fun p => p.1.f0 + (p.1.f2.length : Int))).sum
theorem some_more : ∀ (sh : Shr), GoodS sh → sumX sh < sumHi sh → ∃ p ∈ sh, p.2 < p.1.f0 + (p.1.f2.length : Int)
  | [], _, h => by simp [sumX, sumHi] at h
  | p :: t, hg, h => by
    by_cases hp : p.2 < p.1.f0 + (p.1.f2.length : Int)
    · exact ⟨p, List.mem_cons_self, hp⟩
    · have hgp := (hg p List.mem_cons_self).2.2
      have h2 : sumX t < sumHi t := by
        simp only [sumX, sumHi, List.map_cons, List.sum_cons] at h ⊢
        omega
      obtain ⟨q, hq, hlt⟩ := some_more t (fun q hq => hg q (List.mem_cons_of_mem _ hq)) h2
      exact ⟨q, List.mem_cons_of_mem _ hq, hlt⟩
theorem getD_mem (sh : Shr) (j : Nat) (h : j < sh.length) : sh.getD j zS ∈ sh := by
  rw [List.getD_eq_getElem?_getD, List.getElem?_eq_getElem h]
  exact List.getElem_mem h
/-- While less than the most is divided, the best share is one that can grow. -/
theorem best_ok (sh : Shr) (hg : GoodS sh) (h : sumX sh < sumHi sh) : ∃ j, j < sh.length ∧ (bestTo sh sh.length).1 = (j : Int) ∧ (sh.getD j zS).2 < (sh.getD j zS).1.f0 + ((sh.getD j zS).1.f2.length : Int) := by
  rcases bestTo_spec sh sh.length with ⟨_, h2⟩ | ⟨j, h1, h2, h3⟩
  · obtain ⟨p, hp, hlt⟩ := some_more sh hg h
    obtain ⟨j, hj, e⟩ := List.mem_iff_getElem.1 hp
    have := h2 j hj
    unfold nextAt at this
    rw [next_more (hg _ (getD_mem sh j hj)), List.getD_eq_getElem?_getD, List.getElem?_eq_getElem hj] at this
    simp only [Option.getD_some, e] at this
    exact absurd hlt (of_decide_eq_false this)
  · refine ⟨j, h1, h2, ?_⟩
    unfold nextAt at h3
    rw [next_more (hg _ (getD_mem sh j h1))] at h3
    exact of_decide_eq_true h3
/-- One unit more to the share j. -/
def growAt (sh : Shr) (j : Nat) : Shr := sh.set j ((sh.getD j zS).1, (sh.getD j zS).2 + 1)
theorem growAt_len (sh : Shr) (j : Nat) : (growAt sh j).length = sh.length := by simp [growAt]
theorem growAt_good (sh : Shr) (j : Nat) (hg : GoodS sh) (hj : j < sh.length) (h : (sh.getD j zS).2 < (sh.getD j zS).1.f0 + ((sh.getD j zS).1.f2.length : Int)) : GoodS (growAt sh j) := by
  intro p hp
  rcases List.mem_or_eq_of_mem_set hp with hp | rfl
  · exact hg p hp
  · obtain ⟨g1, g2, g3⟩ := hg _ (getD_mem sh j hj)
    exact ⟨g1, by simp only; omega, by simp only; omega⟩
theorem sum_set : ∀ (l : List Int) (j : Nat) (x : Int), j < l.length → (l.set j x).sum = l.sum - l.getD j 0 + x
  | [], _, _, h => by simp at h
  | y :: t, 0, x, _ => by simp; omega
  | y :: t, j + 1, x, h => by
    have := sum_set t j x (by simpa using h)
    simp only [List.set_cons_succ, List.sum_cons, List.getD_cons_succ, this]
    omega
theorem growAt_sum (sh : Shr) (j : Nat) (hj : j < sh.length) : sumX (growAt sh j) = sumX sh + 1 ∧ sumHi (growAt sh j) = sumHi sh := by
  have e : sh[j]? = some (sh.getD j zS) := by rw [List.getD_eq_getElem?_getD, List.getElem?_eq_getElem hj]; rfl
  constructor
  · unfold sumX growAt
    rw [List.map_set, sum_set _ _ _ (by simpa using hj)]
    have : (sh.map (fun p => p.2)).getD j 0 = (sh.getD j zS).2 := by rw [List.getD_eq_getElem?_getD, List.getElem?_map, e]; rfl
    rw [this]
    simp only
    omega
  · unfold sumHi growAt
    rw [List.map_set, sum_set _ _ _ (by simpa using hj)]
    have : (sh.map (fun p => p.1.f0 + (p.1.f2.length : Int))).getD j 0 = (sh.getD j zS).1.f0 + ((sh.getD j zS).1.f2.length : Int) := by rw [List.getD_eq_getElem?_getD, List.getElem?_map, e]; rfl
    rw [this]
    simp only
    omega
/-- n units, one by one, each to the best share. -/
def fillS : Nat → Shr → Shr
  | 0, sh => sh
  | n + 1, sh => fillS n (growAt sh (bestTo sh sh.length).1.toNat)
theorem fillS_len : ∀ (n : Nat) (sh : Shr), (fillS n sh).length = sh.length
  | 0, _ => rfl
  | n + 1, sh => (fillS_len n _).trans (growAt_len sh _)
end Go.Proofs.Ytingjpcgehgiiaa.Pr
end
section
namespace Go.Proofs.Ytingjpcgehgiiaa.Pr
open Go.RowKit Go.Proofs.YtingjpcgehgiiaaW.PrintWords Go.Proofs.YtingjpcgehgiiaaW.PrintLast Go.Proofs.YtingjpcgehgiiaaW.PrintMore
set_option linter.unusedVariables false
set_option linter.unusedSimpArgs false
def atP (p : S24 × Int) : Int := addAll p.1.f1 (p.1.f2.take (p.2 - p.1.f0).toNat)
def loPr (p : S24 × Int) : Int := if 0 < p.2 - p.1.f0 then rd p.1.f2 (p.2 - p.1.f0 - 1) else -1048576
def hiPr (p : S24 × Int) : Int := if p.2 - p.1.f0 < (p.1.f2.length : Int) then rd p.1.f2 (p.2 - p.1.f0) else 1048576
theorem at_good {p : S24 × Int} (h : GoodC p) : curve_at.f p.1.f0 p.1.f1 p.1.f2 p.2 = some (atP p) := by
  obtain ⟨e, h1, h2⟩ := good_off h
  unfold curve_at.f
  rw [e, if_pos ⟨h1, h2⟩]
  rfl
theorem prices_good {p : S24 × Int} (h : GoodC p) (k : Nat) : curve_prices.f (k + 1) p.1.f0 p.1.f1 p.1.f2 p.2 = some (loPr p, hiPr p) := by
  obtain ⟨e, h1, h2⟩ := good_off h
  obtain ⟨hv, _, _⟩ := h
  obtain ⟨_, _, _, _, v5, _⟩ := validC_parts hv
  unfold curve_prices.f
  simp only [curve_prices.j0]
  rw [e]
  unfold loPr hiPr
  have e2 : wrap64 (p.2 - p.1.f0 - 1) = p.2 - p.1.f0 - 1 := by unfold wrap64; omega
  rw [e2]
  by_cases hc : 0 < p.2 - p.1.f0
  · rw [if_pos hc, if_pos (show (0 : Int) ≤ p.2 - p.1.f0 - 1 by omega), if_pos (show p.2 - p.1.f0 - 1 < (p.1.f2.length : Int) by omega), if_pos hc]
    by_cases hd : p.2 - p.1.f0 < (p.1.f2.length : Int)
    · rw [if_pos hd, if_pos h1, if_pos hd]
    · rw [if_neg hd, if_neg hd]
  · rw [if_neg hc, if_neg hc]
    by_cases hd : p.2 - p.1.f0 < (p.1.f2.length : Int)
    · rw [if_pos hd, if_pos h1, if_pos hd]
    · rw [if_neg hd, if_neg hd]
def sumTo (sh : Shr) (k : Nat) : Int := (sh.take k).foldl (fun v p => wrap64 (v + atP p)) 0
def priceTo (sh : Shr) (k : Nat) : Int := (sh.take k).foldl (fun v p => max v (loPr p)) (-1048576)
theorem take_snocS (l : Shr) (k : Nat) (h : k < l.length) : l.take (k + 1) = l.take k ++ [l.getD k zS] := by
  rw [List.take_add_one, List.getElem?_eq_getElem h, List.getD_eq_getElem?_getD, List.getElem?_eq_getElem h]
  rfl
theorem sumTo_succ (sh : Shr) (k : Nat) (h : k < sh.length) : sumTo sh (k + 1) = wrap64 (sumTo sh k + atP (sh.getD k zS)) := by
  unfold sumTo
  rw [take_snocS sh k h, List.foldl_append]
  rfl
theorem priceTo_succ (sh : Shr) (k : Nat) (h : k < sh.length) : priceTo sh (k + 1) = max (priceTo sh k) (loPr (sh.getD k zS)) := by
  unfold priceTo
  rw [take_snocS sh k h, List.foldl_append]
  rfl
theorem xs_succ (sh : Shr) (k : Nat) (h : k < sh.length) : (sh.take (k + 1)).map (fun p => p.2) = (sh.take k).map (fun p => p.2) ++ [(sh.getD k zS).2] := by
  rw [take_snocS sh k h, List.map_append]
  rfl
/-- A world in which all that lay in w still lies. -/
structure Bel (w : World) where
  W : World
  h : Below w.heap.size w W
instance (w : World) : Nonempty (Bel w) := ⟨⟨w, Below.refl _ w⟩⟩
theorem Bel.start (w : World) : ∃ p : Bel w, ({ w with drawn := w.drawn + 1 } : World) = p.W := ⟨⟨_, (Drawn0.refl w |>.step 1).below⟩, rfl⟩
theorem wp_region_bel {P : Program} {id : Nat} {Q : Exit → Act → World → Prop} {a : Act} {w : World} {l : List Oper} (hm : P.follows .mixedOrders = true) (hB : Region.lexB .any l.toArray = true)
    (h : wpQuiet P l.toArray (fun w' => ∃ p : Bel w, w' = p.W) (fun a' => ∀ w', (∃ p : Bel w, w' = p.W) → Q .normal a' w') l a) : (Code.region id l.toArray true).wp P Q a w :=
  wp_region_quiet (C := fun w' => ∃ p : Bel w, w' = p.W) hm hB (Bel.start w) (by simpa using h)
theorem Bel.cell {w : World} {a : Addr} {v : Value} (h : w.cell? a = some v) (p : Bel w) : p.W.cell? a = some v := (p.h.cell (World.block_lt_of_cell? _ _ h)).trans h
theorem Calls.bel_of {P : Program} {f : FuncId} {args : Array Value} {w : World} {p : Bel w} {v : Value}
    (h : Calls P f args p.W fun e w' => e = .returned v ∧ Below p.W.heap.size p.W w') : Calls P f args p.W fun e w'' => e = .returned v ∧ ∃ q : Bel w, w'' = q.W :=
  h.mono fun _ w' ⟨he, hb⟩ => ⟨he, ⟨w', below_then p.h p.h.size hb⟩, rfl⟩
end Go.Proofs.Ytingjpcgehgiiaa.Pr
end
section
namespace Go.Proofs.Ytingjpcgehgiiaa.Pr
open Go.RowKit Go.Proofs.YtingjpcgehgiiaaW.PrintWords Go.Proofs.YtingjpcgehgiiaaW.PrintLast Go.Proofs.YtingjpcgehgiiaaW.PrintMore
set_option linter.unusedVariables false
set_option linter.unusedSimpArgs false
/-- The sum of a list. -/
def tot : List Int → Int
  | [] => 0
  | x :: t => x + tot t
theorem tot_append : ∀ a b : List Int, tot (a ++ b) = tot a + tot b
  | [], b => by simp [tot]
  | x :: t, b => by rw [List.cons_append, tot, tot, tot_append t b]; omega
/-- What a price gains on the slopes. -/
def pos (p : Int) : List Int → Int
  | [] => 0
  | s :: t => (if s ≤ p then p - s else 0) + pos p t
theorem pos_append (p : Int) : ∀ a b : List Int, pos p (a ++ b) = pos p a + pos p b
  | [], b => by simp [pos]
  | x :: t, b => by rw [List.cons_append, pos, pos, pos_append p t b]; omega
theorem pos_nonneg (p : Int) : ∀ l : List Int, 0 ≤ pos p l
  | [] => by simp [pos]
  | x :: t => by
    have := pos_nonneg p t
    rw [pos]
    split <;> omega
theorem pos_none {p : Int} : ∀ {l : List Int}, (∀ s ∈ l, p ≤ s) → pos p l = 0
  | [], _ => rfl
  | x :: t, h => by
    have h1 := pos_none (l := t) fun s hs => h s (List.mem_cons_of_mem _ hs)
    have h2 := h x List.mem_cons_self
    rw [pos, h1]
    split <;> omega
theorem mul_succ_len (p : Int) (x : Int) (t : List Int) : p * ((x :: t).length : Int) = p * (t.length : Int) + p := by
  rw [List.length_cons]; push_cast; rw [Int.mul_add, Int.mul_one]
theorem pos_ge (p : Int) : ∀ l : List Int, p * (l.length : Int) - tot l ≤ pos p l
  | [] => by simp [pos, tot]
  | x :: t => by
    have h := pos_ge p t
    rw [mul_succ_len, pos, tot]
    split <;> omega
theorem pos_all {p : Int} : ∀ {l : List Int}, (∀ s ∈ l, s ≤ p) → pos p l = p * (l.length : Int) - tot l
  | [], _ => by simp [pos, tot]
  | x :: t, h => by
    have h1 := pos_all (l := t) fun s hs => h s (List.mem_cons_of_mem _ hs)
    have h2 := h x List.mem_cons_self
    rw [mul_succ_len, pos, tot, h1]
    split <;> omega
theorem pos_perm (p : Int) {a b : List Int} (h : a.Perm b) : pos p a = pos p b := by
  induction h with
  | nil => rfl
  | cons x _ ih => rw [pos, pos, ih]
  | swap x y l => rw [pos, pos, pos, pos]; omega
  | trans _ _ h1 h2 => rw [h1, h2]
theorem tot_bound {m : Int} (h0 : 0 ≤ m) : ∀ {l : List Int}, (∀ s ∈ l, -m ≤ s ∧ s ≤ m) → -(m * (l.length : Int)) ≤ tot l ∧ tot l ≤ m * (l.length : Int)
  | [], _ => by simp [tot]
  | x :: t, h => by
    have h1 := tot_bound h0 (l := t) fun s hs => h s (List.mem_cons_of_mem _ hs)
    have h2 := h x List.mem_cons_self
    rw [mul_succ_len, tot]
    omega
theorem addAll_tot : ∀ (l : List Int) (v : Int), (∀ s ∈ l, -1048576 ≤ s ∧ s ≤ 1048576) → -4611686018427387904 ≤ v - 1048576 * (l.length : Int) → v + 1048576 * (l.length : Int) ≤ 4611686018427387904 → addAll v l = v + tot l
  | [], v, _, _, _ => by simp [addAll, tot]
  | x :: t, v, h, h1, h2 => by
    have h3 := h x List.mem_cons_self
    rw [mul_succ_len] at h1 h2
    have e : wrap64 (v + x) = v + x := by unfold wrap64; omega
    have e2 : addAll v (x :: t) = addAll (wrap64 (v + x)) t := rfl
    rw [e2, e, addAll_tot t (v + x) (fun s hs => h s (List.mem_cons_of_mem _ hs)) (by omega) (by omega), tot]
    omega
/-- A curve is valid. -/
def Vc (c : S24) : Prop := validC c.f0 c.f1 c.f2 = true
instance (c : S24) : Decidable (Vc c) := inferInstanceAs (Decidable (_ = true))
def inC (c : S24) (x : Int) : Prop := c.f0 ≤ x ∧ x ≤ c.f0 + (c.f2.length : Int)
instance (c : S24) (x : Int) : Decidable (inC c x) := inferInstanceAs (Decidable (_ ∧ _))
/-- The value at a number. -/
def valC (c : S24) (x : Int) : Int := c.f1 + tot (c.f2.take (x - c.f0).toNat)
/-- The greatest of p*x - c(x). -/
def gC (c : S24) (p : Int) : Int := p * c.f0 - c.f1 + pos p c.f2
theorem young {c : S24} {x : Int} (p : Int) (h : inC c x) : p * x - valC c x ≤ gC c p := by
  unfold valC gC
  obtain ⟨h1, h2⟩ := h
  obtain ⟨k, hk⟩ := Int.eq_ofNat_of_zero_le (show 0 ≤ x - c.f0 by omega)
  have hx : x = c.f0 + (k : Int) := by omega
  have e : pos p c.f2 = pos p (c.f2.take k) + pos p (c.f2.drop k) := by rw [← pos_append, List.take_append_drop]
  have a := pos_ge p (c.f2.take k)
  have b := pos_nonneg p (c.f2.drop k)
  have hl : (c.f2.take k).length = k := by rw [List.length_take]; omega
  rw [hl] at a
  rw [hk, Int.toNat_natCast, e, hx, Int.mul_add]
  omega
theorem young_eq {c : S24} {x p : Int} (h : inC c x) (h1 : ∀ s ∈ c.f2.take (x - c.f0).toNat, s ≤ p) (h2 : ∀ s ∈ c.f2.drop (x - c.f0).toNat, p ≤ s) : p * x - valC c x = gC c p := by
  unfold valC gC
  obtain ⟨h3, h4⟩ := h
  obtain ⟨k, hk⟩ := Int.eq_ofNat_of_zero_le (show 0 ≤ x - c.f0 by omega)
  have hx : x = c.f0 + (k : Int) := by omega
  rw [hk, Int.toNat_natCast] at h1 h2
  have e : pos p c.f2 = pos p (c.f2.take k) + pos p (c.f2.drop k) := by rw [← pos_append, List.take_append_drop]
  have a := pos_all h1
  have b := pos_none h2
  have hl : (c.f2.take k).length = k := by rw [List.length_take]; omega
  rw [hl] at a
  rw [hk, Int.toNat_natCast, e, hx, Int.mul_add]
  omega
/-- In order. -/
theorem sortedTo_iff (l : List Int) : ∀ i, sortedTo l i = true ↔ ∀ j, j < i → rd l (j : Int) ≤ rd l ((j + 1 : Nat) : Int)
  | 0 => by simp [sortedTo]
  | i + 1 => by
    rw [sortedTo_succ, Bool.and_eq_true, sortedTo_iff l i, decide_eq_true_eq]
    constructor
    · rintro ⟨h1, h2⟩ j hj
      by_cases e : j = i
      · subst e; exact h2
      · exact h1 j (by omega)
    · intro h
      exact ⟨fun j hj => h j (by omega), h i (by omega)⟩
theorem sorted_rd {l : List Int} (h : sortedI l = true) {i j : Nat} (hij : i ≤ j) (hj : j < l.length) : rd l (i : Int) ≤ rd l (j : Int) := by
  have h2 := (sortedTo_iff l _).1 h
  induction j with
  | zero => have : i = 0 := by omega
            subst this; exact Int.le_refl _
  | succ j ih =>
    by_cases e : i = j + 1
    · subst e; exact Int.le_refl _
    · have := ih (by omega) (by omega)
      have := h2 j (by omega)
      omega
theorem rd_nat (l : List Int) (i : Nat) (h : i < l.length) : rd l (i : Int) = l[i] := by
  unfold rd
  rw [Int.toNat_natCast, List.getD_eq_getElem?_getD, List.getElem?_eq_getElem h]
  rfl
theorem mem_take_rd {l : List Int} {k : Nat} {s : Int} (h : s ∈ l.take k) : ∃ i, i < k ∧ i < l.length ∧ rd l (i : Int) = s := by
  obtain ⟨i, hi, rfl⟩ := List.mem_iff_getElem.1 h
  rw [List.length_take] at hi
  exact ⟨i, by omega, by omega, by rw [rd_nat l i (by omega), List.getElem_take]⟩
theorem mem_drop_rd {l : List Int} {k : Nat} {s : Int} (h : s ∈ l.drop k) : ∃ i, k ≤ i ∧ i < l.length ∧ rd l (i : Int) = s := by
  obtain ⟨i, hi, rfl⟩ := List.mem_iff_getElem.1 h
  rw [List.length_drop] at hi
  exact ⟨k + i, by omega, by omega, by rw [rd_nat l (k + i) (by omega), List.getElem_drop]⟩
theorem rd_mem_take {l : List Int} {k i : Nat} (h : i < k) (h2 : i < l.length) : rd l (i : Int) ∈ l.take k := by
  rw [rd_nat l i h2]
  have : (l.take k)[i]'(by rw [List.length_take]; omega) = l[i] := List.getElem_take
  rw [← this]
  exact List.getElem_mem _
theorem rd_mem_drop {l : List Int} {k i : Nat} (h : k ≤ i) (h2 : i < l.length) : rd l (i : Int) ∈ l.drop k := by
  rw [rd_nat l i h2]
  obtain ⟨d, rfl⟩ : ∃ d, i = k + d := ⟨i - k, by omega⟩
  have : (l.drop k)[d]'(by rw [List.length_drop]; omega) = l[k + d] := List.getElem_drop
  rw [← this]
  exact List.getElem_mem _
/-- A price parts the slopes. -/
theorem parts_at {l : List Int} (h : sortedI l = true) (p : Int) : ∃ k, k ≤ l.length ∧ (∀ s ∈ l.take k, s < p) ∧ (∀ s ∈ l.drop k, p ≤ s) := by
  have key : ∀ n, n ≤ l.length → (∃ k, k ≤ n ∧ (∀ s ∈ l.take k, s < p) ∧ (k < n → p ≤ rd l (k : Int))) := by
    intro n
    induction n with
    | zero => exact fun _ => ⟨0, by omega, by simp, by omega⟩
    | succ n ih =>
      intro hn
      obtain ⟨k, h1, h2, h3⟩ := ih (by omega)
      by_cases hk : k < n
      · exact ⟨k, by omega, h2, fun _ => h3 hk⟩
      · have hk : k = n := by omega
        subst hk
        by_cases hp : p ≤ rd l (k : Int)
        · exact ⟨k, by omega, h2, fun _ => hp⟩
        · refine ⟨k + 1, by omega, fun s hs => ?_, by omega⟩
          obtain ⟨i, i1, i2, rfl⟩ := mem_take_rd hs
          have := sorted_rd h (i := i) (j := k) (by omega) (by omega)
          omega
  obtain ⟨k, h1, h2, h3⟩ := key l.length (Nat.le_refl _)
  refine ⟨k, h1, h2, fun s hs => ?_⟩
  obtain ⟨i, i1, i2, rfl⟩ := mem_drop_rd hs
  have := sorted_rd h i1 i2
  have := h3 (by omega)
  omega
theorem vc_parts {c : S24} (h : Vc c) : -1048576 ≤ c.f0 ∧ c.f0 ≤ 1048576 ∧ -1099511627776 ≤ c.f1 ∧ c.f1 ≤ 1099511627776 ∧ c.f2.length ≤ 64 ∧ sortedI c.f2 = true ∧ ∀ s ∈ c.f2, -1048576 ≤ s ∧ s ≤ 1048576 := validC_parts h
theorem val_bound {c : S24} (h : Vc c) (x : Int) : -1099578736640 ≤ valC c x ∧ valC c x ≤ 1099578736640 := by
  obtain ⟨_, _, h3, h4, h5, _, h7⟩ := vc_parts h
  have := tot_bound (m := 1048576) (by decide) (l := c.f2.take (x - c.f0).toNat) fun s hs => h7 s (List.mem_of_mem_take hs)
  have hl : (c.f2.take (x - c.f0).toNat).length ≤ 64 := by rw [List.length_take]; omega
  unfold valC
  omega
theorem at_val {c : S24} (h : Vc c) {x : Int} (hx : inC c x) : curve_at.f c.f0 c.f1 c.f2 x = some (valC c x) := by
  obtain ⟨h1, h2, h3, h4, h5, _, h7⟩ := vc_parts h
  obtain ⟨hx1, hx2⟩ := hx
  have e : wrap64 (x - c.f0) = x - c.f0 := by unfold wrap64; omega
  unfold curve_at.f valC
  have hl : (c.f2.take (x - c.f0).toNat).length ≤ 64 := by rw [List.length_take]; omega
  rw [e, if_pos ⟨by omega, by omega⟩, addAll_tot _ _ (fun s hs => h7 s (List.mem_of_mem_take hs)) (by omega) (by omega)]
end Go.Proofs.Ytingjpcgehgiiaa.Pr
end
section
namespace Go.Proofs.Ytingjpcgehgiiaa.Pr
open Go.RowKit Go.Proofs.YtingjpcgehgiiaaW.PrintWords Go.Proofs.YtingjpcgehgiiaaW.PrintLast Go.Proofs.YtingjpcgehgiiaaW.PrintMore
attribute [local go_sem] max2_int min2_int max_two min_two max_three min_three max_four min_four   -- for this text's walks alone
set_option linter.unusedVariables false
set_option linter.unusedSimpArgs false
def kimberliteref03_Out.l0 : Nat → Int → Int → Int → List Int → Int → List Int → Option (Int × List Int)
 | 0, _, _, _, _, _, _ => none
 | k + 1, x4, x142000, x142001, x142002, x147000, x147001 => if x4 < (x142002.length : Int) then (if 0 ≤ x4 then (if x4 < (x147001.length : Int) then (if x147001.length < 17592186044416 then (kimberliteref03_Out.l0 k (wrap64 (x4 + 1)) x142000 x142001 x142002 x147000 (x147001 ++ [wrap64 ((rd x147001 x4) + (rd x142002 x4))])) else (none)) else (none)) else (none)) else (some (x147000, x147001))
def kimberliteref03_Out.f (k : Nat) (a0_0 : Int) (a0_1 : Int) (l0_2 : List Int) : Option (Int × List Int) := kimberliteref03_Out.l0 k 0 a0_0 a0_1 l0_2 a0_0 (([a0_1] : List Int))
theorem kimberliteref03_Out.mono_l : ∀ k, (∀ y0 y1 y2 y3 y4 y5, LeO (kimberliteref03_Out.l0 k y0 y1 y2 y3 y4 y5) (kimberliteref03_Out.l0 (k + 1) y0 y1 y2 y3 y4 y5))
 | 0 => fun _ _ _ _ _ _ r h => by simp [kimberliteref03_Out.l0] at h
 | k + 1 => by
  have ih0 := kimberliteref03_Out.mono_l k
  · intro y0 y1 y2 y3 y4 y5; unfold kimberliteref03_Out.l0
    repeat' first
    | (with_reducible exact ih0 _ _ _ _ _ _)
    | (with_reducible exact LeO.refl _)
    | (with_reducible exact LeO.none _)
    | (with_reducible refine LeO.ite ?_ ?_)
    | (with_reducible refine LeO.bind ?_ (fun _ => ?_))
    | exact ih0 _ _ _ _ _ _
    | exact LeO.none _
    | refine LeO.ite ?_ ?_
    | refine LeO.bind ?_ (fun _ => ?_)
theorem kimberliteref03_Out.mono : ∀ a0 a1 a2 k, LeO (kimberliteref03_Out.f k a0 a1 a2) (kimberliteref03_Out.f (k + 1) a0 a1 a2) := by
 intro a0 a1 a2 k; have ih0 := kimberliteref03_Out.mono_l k; unfold kimberliteref03_Out.f
 repeat' first
  | (with_reducible exact ih0 _ _ _ _ _ _)
  | (with_reducible exact LeO.refl _)
  | (with_reducible exact LeO.none _)
  | (with_reducible refine LeO.ite ?_ ?_)
  | (with_reducible refine LeO.bind ?_ (fun _ => ?_))
  | exact ih0 _ _ _ _ _ _
  | exact LeO.none _
  | refine LeO.ite ?_ ?_
  | refine LeO.bind ?_ (fun _ => ?_)
def kimberliteref03_Out.T5 : Bool × List (List Nat × List Nat) := (true, [([], []), ([0], [0]), ([], []), ([2], [2]), ([], []), ([3, 4], [3, 4]), ([5], [5]), ([], []), ([7], [7]), ([], []), ([8, 9], [8, 9]), ([10], [10]), ([6, 11], [6, 11]), ([12], [12]), ([1, 13], [1, 13]), ([0, 1, 2, 3, 4, 5, 6, 7, 8, 9, 10, 11, 12, 13, 14], []), ([15, 14, 14, 0, 1, 2, 3, 4, 5, 6, 7, 8, 9, 10, 11, 12, 13, 14], [14, 15])])
def kimberliteref03_Out.B5 : List Nat := [0, 1, 0, 4, 0, 28, 60, 0, 128, 0, 896, 1920, 4092, 8188, 16383, 32767, 65535]
theorem kimberliteref03_Out.tab5 : rtab .any (opsOf Try.f64 5) = kimberliteref03_Out.T5 := by kernel_rfl
theorem kimberliteref03_Out.bits5 : waitsOk kimberliteref03_Out.T5.2 kimberliteref03_Out.B5 = true := by kernel_rfl
set_option maxHeartbeats 8000000 in
set_option maxRecDepth 100000 in
theorem kimberliteref03_Out.calls (k : Nat) (a0_0 : Int) (a0_1 : Int) (A0_2 : Option Addr) (c0_2 : Nat) (l0_2 : List Int) (r1 : Int) (r2 : List Int) (w : World) (hr0_2 : Kd.C (Kd.int .i64) w A0_2 l0_2.length l0_2) (hc0_2 : l0_2.length ≤ c0_2) (h : kimberliteref03_Out.f k a0_0 a0_1 l0_2 = some (r1, r2)) :
 Calls Try.prog 64 #[.agg #[.int .i64 a0_0, .int .i64 a0_1, .slice A0_2 l0_2.length c0_2]] w fun e w' => ∃ v1_ : Value, e = .returned (.agg #[.int .i64 r1, v1_]) ∧ Kd.R (Kd.int .i64) 3 w' w.heap.size (fun _ => True) v1_ r2 ∧ Below w.heap.size w w' := by
 have hu24 := Try.underlying24; have hu78 := Try.underlying78; have HR0_2 := Aside0.mk hr0_2; have HC0_2 := Aside0.mk hc0_2; clear hr0_2 hc0_2; have HB := Aside0.mk (Below.refl w.heap.size w); have H : (kimberliteref03_Out.l0 k 0 a0_0 a0_1 l0_2 a0_0 (([a0_1] : List Int))) = some (r1, r2) := h; clear h; obtain ⟨y143, hy143⟩ : ∃ y_ : List Int, y_ = (([a0_1] : List Int)) := ⟨_, rfl⟩; replace H : (kimberliteref03_Out.l0 k 0 a0_0 a0_1 l0_2 a0_0 y143) = some (r1, r2) := by first | (rw [hy143]; with_reducible exact H) | (have H2_ := (Option.bind_some _ _).symm.trans H; rw [hy143]; with_reducible exact H2_) | (have H2_ := (Option.bind_some _ _).symm.trans H; with_reducible exact H2_) | with_reducible exact H | (rw [hy143]; exact H) | exact H
 have Ny143 := Aside0.mk hy143; clear hy143; have H' := Aside0.mk H; clear H; go_enter Try.func64, Try.ntmps64
 go_wp2_with (first | ((with_reducible refine gate_dst (N := 1) rfl ?_); refine box_event ?hg (N := 1) ?hd (cs := #[.int .i64 a0_0, .int .i64 a0_1, .slice A0_2 l0_2.length c0_2]) (t := 24) ?hr ?_; (case hd => rfl); (case hg => rfl); (case hr => first | (go_simp; done) | (go_simp; rfl)); intro gb141 hg w2 hbox hb; have BK141 := Aside0.mk (hbox); have GW141 := Aside0.mk ((by rw [hg]; exact (below_size (nC HB)) : w.heap.size ≤ gb141)); have GE141 := Aside0.mk ((by rw [hg]; exact (below_size (nC HB)) : w.heap.size ≤ gb141)); replace HB := Aside0.mk (below_step (nC HB) hb); clear hb hbox hg) | ((with_reducible refine gate_dst (N := 2) rfl ?_); refine box_event ?hg (N := 2) ?hd (cs := #[.int .i64 0, .slice none 0 0]) (t := 78) ?hr ?_; (case hd => rfl); (case hg => rfl); (case hr => first | (go_simp; done) | (go_simp; rfl)); intro gb142 hg w3 hbox hb; have BK142 := Aside0.mk (hbox); have GW142 := Aside0.mk ((by rw [hg]; exact (below_size (nC HB)) : w.heap.size ≤ gb142)); have GE142 := Aside0.mk ((by rw [hg]; exact (below_size (nC HB)) : w.heap.size ≤ gb142)); replace HB := Aside0.mk (below_step (nC HB) hb); have NB141_142 := Aside0.mk ((by rw [hg]; exact Nat.ne_of_lt (blk_lt (nK BK141)) : gb141 ≠ gb142)); have NB142_141 := Aside0.mk ((by rw [hg]; exact Nat.ne_of_gt (blk_lt (nK BK141)) : gb142 ≠ gb141)); replace BK141 := Aside0.mk (nB BK141 hb); clear hb hbox hg; have hnb4 := NB141_142.out; have hnc4 := NB142_141.out; obtain ⟨hcz5_0, hcz5_1, hcz5_2, hfz5_0, hfz5_1, hfz5_2⟩ := cz3 BK141) | ((with_reducible refine gate_dst (N := 9) rfl ?_); refine Kd.R_lit (Kd.int .i64) _ 3 ?hg (N := 9) ?hd (xs := ([a0_1] : List Int)) (inner := [.int .i64 a0_1]) (ok := fun _ => True) (okp := fun _ => True) ?hr ?hp (fun _ hk => hk) trivial (Below.refl _ _) (Nat.le_refl _) (by simp) ?_; (case hd => rfl); (case hg => rfl); (case hr => first | (go_simp; done) | (go_simp; rfl)); (case hp => exact (Reps.one (show Kd.M (Kd.int .i64) _ _ _ a0_1 [.int .i64 a0_1] from rfl) (Reps.none _ _))); intro v144 w6 ho7 hb hg_ hnew_; clear hg_ hnew_; (first | rw [← Ny143.out] at ho7 | (simp only [Int.reduceToNat] at ho7; rw [← Ny143.out] at ho7)); have HO145 := Aside0.mk (Kd.R_lower ho7 (below_size (nC HB))); replace BK141 := Aside0.mk (nB BK141 hb); replace BK142 := Aside0.mk (nB BK142 hb); replace HB := Aside0.mk (below_step (nC HB) hb); clear hb ho7; obtain ⟨Ao8, co8, eo8⟩ := Kd.R_slice HO145.out; subst eo8) | ((with_reducible refine gate_dst (N := 3) rfl ?_); refine box_event ?hg (N := 3) ?hd (cs := #[.int .i64 0, .slice none 0 0]) (t := 78) ?hr ?_; (case hd => rfl); (case hg => rfl); (case hr => first | (go_simp; done) | (go_simp; rfl)); intro gb146 hg w9 hbox hb; replace HO145 := Aside0.mk (Kd.R_below (nR HO145) hb); have BK146 := Aside0.mk (hbox); have GW146 := Aside0.mk ((by rw [hg]; exact (below_size (nC HB)) : w.heap.size ≤ gb146)); have GE146 := Aside0.mk ((by rw [hg]; exact (below_size (nC HB)) : w.heap.size ≤ gb146)); replace HB := Aside0.mk (below_step (nC HB) hb); have NB141_146 := Aside0.mk ((by rw [hg]; exact Nat.ne_of_lt (blk_lt (nK BK141)) : gb141 ≠ gb146)); have NB146_141 := Aside0.mk ((by rw [hg]; exact Nat.ne_of_gt (blk_lt (nK BK141)) : gb146 ≠ gb141)); replace BK141 := Aside0.mk (nB BK141 hb); have NB142_146 := Aside0.mk ((by rw [hg]; exact Nat.ne_of_lt (blk_lt (nK BK142)) : gb142 ≠ gb146)); have NB146_142 := Aside0.mk ((by rw [hg]; exact Nat.ne_of_gt (blk_lt (nK BK142)) : gb146 ≠ gb142)); replace BK142 := Aside0.mk (nB BK142 hb); clear hb hbox hg; have hnb10 := NB146_141.out; have hnc10 := NB141_146.out; have hnb11 := NB146_142.out; have hnc11 := NB142_146.out; obtain ⟨hcz12_0, hcz12_1, hfz12_0, hfz12_1⟩ := cz2 BK146))
 go_loopg [4] k (fun kq v4 w' => ∃ (x4_1 : Int) (x147001_1 : List Int) (u147001 : Value), v4 = .int .i64 x4_1 ∧ Aside0 (kimberliteref03_Out.l0 kq x4_1 a0_0 a0_1 l0_2 a0_0 x147001_1 = some (r1, r2)) ∧ Aside0 (kq ≤ k) ∧ Aside0 (Kd.R (Kd.int .i64) 3 w' w.heap.size (fun _ => True) u147001 x147001_1) ∧ Aside0 (w'.heap[gb141]? = some (.cells #[.int .i64 a0_0, .int .i64 a0_1, (.slice A0_2 l0_2.length c0_2)] 24 (0, 0))) ∧ Aside0 (w'.heap[gb142]? = some (.cells #[.int .i64 0, (.slice none 0 0)] 78 (0, 0))) ∧ Aside0 (w'.heap[gb146]? = some (.cells #[.int .i64 a0_0, u147001] 78 (0, 0))) ∧ Aside0 (Below w.heap.size w w'))
 case atStart => exact ⟨(0), (y143), (.slice Ao8 y143.length co8), (by first | rfl | (simp; done) | (simp [*]; done)), H', ⟨Nat.le_refl _⟩, ⟨by (with_reducible repeat (first | apply Kd.R_alloc | apply Kd.R_drewN | apply Kd.R_drew)); exact Kd.R_mono (Kd.R_far (p := ⟨gb146, 1, none⟩) (Kd.R_far (p := ⟨gb146, 0, none⟩) (Kd.R_types HO145.out BK146.out (by decide)) (fun _ hk => hk.2) (.int .i64 a0_0)) (fun _ hk => hk.2) (.slice Ao8 y143.length co8)) (fun _ hk => trivial)⟩, ⟨by (with_reducible repeat (first | refine blk_drewN ?_ _ | refine blk_drew ?_ | refine blk_alloc ?_ _)); refine blk_far ?_ NB141_146.out _; (with_reducible repeat (first | refine blk_drewN ?_ _ | refine blk_drew ?_ | refine blk_alloc ?_ _)); refine blk_far ?_ NB141_146.out _; (with_reducible repeat (first | refine blk_drewN ?_ _ | refine blk_drew ?_ | refine blk_alloc ?_ _)); exact BK141.out⟩, ⟨by (with_reducible repeat (first | refine blk_drewN ?_ _ | refine blk_drew ?_ | refine blk_alloc ?_ _)); refine blk_far ?_ NB142_146.out _; (with_reducible repeat (first | refine blk_drewN ?_ _ | refine blk_drew ?_ | refine blk_alloc ?_ _)); refine blk_far ?_ NB142_146.out _; (with_reducible repeat (first | refine blk_drewN ?_ _ | refine blk_drew ?_ | refine blk_alloc ?_ _)); exact BK142.out⟩, ⟨by (with_reducible repeat (first | refine blk_drewN ?_ _ | refine blk_drew ?_ | refine blk_alloc ?_ _)); refine blk_put (cs := #[.int .i64 a0_0, .slice none 0 0]) ?_ 1 _ rfl; (with_reducible repeat (first | refine blk_drewN ?_ _ | refine blk_drew ?_ | refine blk_alloc ?_ _)); refine blk_put (cs := #[.int .i64 0, .slice none 0 0]) ?_ 0 _ rfl; (with_reducible repeat (first | refine blk_drewN ?_ _ | refine blk_drew ?_ | refine blk_alloc ?_ _)); exact BK146.out⟩, ⟨nC HB⟩⟩
 case round =>
  clear H'; obtain ⟨x4_1, x147001_1, u147001, rfl, HA, HK1, HO_147001, BK141, BK142, BK146, HB⟩ := hrel
  cases gk with
  | zero => exact absurd HA.out (by simp [kimberliteref03_Out.l0])
  | succ k1 =>
   have H := HA.out; clear HA; simp only [kimberliteref03_Out.l0] at H
   by_cases c13 : x4_1 < (l0_2.length : Int)
   · rw [if_pos c13] at H; have c13b0 : decide (x4_1 < (l0_2.length : Int)) = true := decide_eq_true c13; clear c13
     by_cases c14 : 0 ≤ x4_1
     · rw [if_pos c14] at H; have c14b0 : decide (0 ≤ x4_1) = true := decide_eq_true c14; clear c14
       by_cases c15 : x4_1 < (x147001_1.length : Int)
       · rw [if_pos c15] at H; have c15b0 : decide (x4_1 < (x147001_1.length : Int)) = true := decide_eq_true c15; clear c15
         by_cases c16 : x147001_1.length < 17592186044416
         · rw [if_pos c16] at H; have LMc16 := Aside0.mk c16; clear c16; obtain ⟨y149, hy149⟩ : ∃ y_ : List Int, y_ = (x147001_1 ++ [wrap64 ((rd x147001_1 x4_1) + (rd l0_2 x4_1))]) := ⟨_, rfl⟩; replace H : (kimberliteref03_Out.l0 k1 (wrap64 (x4_1 + 1)) a0_0 a0_1 l0_2 a0_0 y149) = some (r1, r2) := by first | (rw [hy149]; with_reducible exact H) | (have H2_ := (Option.bind_some _ _).symm.trans H; rw [hy149]; with_reducible exact H2_) | (have H2_ := (Option.bind_some _ _).symm.trans H; with_reducible exact H2_) | with_reducible exact H | (rw [hy149]; exact H) | exact H
           have Ny149 := Aside0.mk hy149; clear hy149; have H' := Aside0.mk H; clear H; have hnb17 := NB141_142.out; have hnc17 := NB142_141.out; have hnb18 := NB141_146.out; have hnc18 := NB146_141.out; obtain ⟨hcz19_0, hcz19_1, hcz19_2, hfz19_0, hfz19_1, hfz19_2⟩ := cz3 BK141; try go_wp2
           replace HO_147001 := Aside0.mk (Kd.R_drew HO_147001.out); replace BK141 := Aside0.mk (blk_drew BK141.out); replace BK142 := Aside0.mk (blk_drew BK142.out); replace BK146 := Aside0.mk (blk_drew BK146.out); replace HB := Aside0.mk (below_drew1 HB.out); obtain ⟨Ao21, co21, eo21⟩ := Kd.R_slice HO_147001.out; (first | subst eo21 | (injection eo21 with f1_ f2_ f3_; have f4_ := f1_.symm; have f5_ := f3_.symm; clear f1_ f2_ f3_; subst f4_; subst f5_)); have p147 : 0 ≤ (x4_1 : Int) := of_decide_eq_true (by first | (with_reducible assumption) | assumption); have q147 : x4_1 < (x147001_1.length : Int) := of_decide_eq_true (by first | (with_reducible assumption) | assumption); obtain ⟨ad147, e147, hx147_0⟩ := Kd.at_int (Kd.R_reads' HO_147001.out).2.2 x4_1 p147 q147
           cases e147
           replace p147 := eq_true p147; replace q147 := eq_true q147; have p148 : 0 ≤ (x4_1 : Int) := of_decide_eq_true (by first | (with_reducible assumption) | assumption); have q148 : x4_1 < (l0_2.length : Int) := of_decide_eq_true (by first | (with_reducible assumption) | assumption); obtain ⟨ad148, e148, hx148_0⟩ := Kd.at_int HR0_2.out x4_1 p148 q148; have hw148_0 := hx148_0
           cases e148
           replace hx148_0 := (HB.out.cell (World.block_lt_of_cell? w _ hx148_0)).trans hx148_0; replace p148 := eq_true p148; replace q148 := eq_true q148; refine start_ (n := 17) (S := fun w' => w'.cell? ⟨gb146, 0, none⟩ = some (.int .i64 a0_0) ∧ w'.cell? ⟨gb146, 1, none⟩ = some (.slice (some ad147) x147001_1.length co21) ∧ w'.cell? ⟨gb141, 0, none⟩ = some (.int .i64 a0_0) ∧ w'.cell? ⟨gb141, 1, none⟩ = some (.int .i64 a0_1) ∧ w'.cell? ⟨gb141, 2, none⟩ = some (.slice (some ad148) l0_2.length c0_2) ∧ w'.cell? (ad147.add (x4_1).toNat) = some (.int .i64 (rd x147001_1 x4_1)) ∧ w'.cell? (ad148.add (x4_1).toNat) = some (.int .i64 (rd l0_2 x4_1))) (ds := [14, 16]) #[false, false, false, false, false, false, false, false, false, false, false, false, false, false, false, false, false] (by kernel_rfl) rfl rfl ⟨(blk_cell BK146.out 0).trans rfl, (blk_cell BK146.out 1).trans rfl, (blk_cell BK141.out 0).trans rfl, (blk_cell BK141.out 1).trans rfl, (blk_cell BK141.out 2).trans rfl, hx147_0, ((HB.out.cell (World.block_lt_of_cell? w _ hw148_0)).trans hw148_0)⟩ (fun hHeld => ?_); refine with_tabW kimberliteref03_Out.tab5 kimberliteref03_Out.bits5 (fun HT_ HW_ => ?_); generalize wr.drew = w20 at HO_147001 BK141 BK142 BK146 HB hx147_0 hx148_0 hHeld ⊢; refine pure_ (i := 0) (N := some 18) (v := ?_) (a' := ?_) #[true, false, false, false, false, false, false, false, false, false, false, false, false, false, false, false, false] rfl rfl (any_of HT_.out (by kernel_rfl)) (fun _ _ _ h => h) (Or.inl ⟨by rfl, ?_⟩) ?_ ?_; rotate_left
           · intro w'; go_simp
             with_reducible rfl
           rotate_left
           · simp only [Act.put, zs1, zs2, zs3, i64_w, i32_w]; rfl
           refine pure_ (i := 2) (N := some 20) (v := ?_) (a' := ?_) #[true, false, true, false, false, false, false, false, false, false, false, false, false, false, false, false, false] rfl rfl (any_of HT_.out (by kernel_rfl)) (fun _ _ _ h => h) (Or.inl ⟨by rfl, ?_⟩) ?_ ?_; rotate_left
           · intro w'; go_simp
             with_reducible rfl
           rotate_left
           · simp only [Act.put, zs1, zs2, zs3, i64_w, i32_w]; rfl
           refine pure_ (i := 4) (N := some 22) (v := ?_) (a' := ?_) #[true, false, true, false, true, false, false, false, false, false, false, false, false, false, false, false, false] rfl rfl (any_of HT_.out (by kernel_rfl)) (fun _ _ _ h => h) (Or.inl ⟨by rfl, ?_⟩) ?_ ?_; rotate_left
           · intro w'; go_simp
             with_reducible rfl
           rotate_left
           · simp only [Act.put, zs1, zs2, zs3, i64_w, i32_w]; rfl
           refine pure_ (i := 7) (N := some 25) (v := ?_) (a' := ?_) #[true, false, true, false, true, false, false, true, false, false, false, false, false, false, false, false, false] rfl rfl (any_of HT_.out (by kernel_rfl)) (fun _ _ _ h => h) (Or.inl ⟨by rfl, ?_⟩) ?_ ?_; rotate_left
           · intro w'; go_simp
             with_reducible rfl
           rotate_left
           · simp only [Act.put, zs1, zs2, zs3, i64_w, i32_w]; rfl
           refine pure_ (i := 9) (N := some 27) (v := ?_) (a' := ?_) #[true, false, true, false, true, false, false, true, false, true, false, false, false, false, false, false, false] rfl rfl (any_of HT_.out (by kernel_rfl)) (fun _ _ _ h => h) (Or.inl ⟨by rfl, ?_⟩) ?_ ?_; rotate_left
           · intro w'; go_simp
             with_reducible rfl
           rotate_left
           · simp only [Act.put, zs1, zs2, zs3, i64_w, i32_w]; rfl
           refine take_ (i := 1) (N := some 19) (v := ?_) (a' := ?_) #[true, true, true, false, true, false, false, true, false, true, false, false, false, false, false, false, false] rfl rfl (take_ofW HT_.out HW_.out (by kernel_rfl)) (fun _ _ _ h => h) (Or.inl ⟨by rfl, ?_⟩) hHeld ?_ ?_; rotate_left
           · rintro w' ⟨s0, zs1, zs2, zs3, s4, s5, s6⟩; go_simp
             with_reducible rfl
           rotate_left
           · simp only [Act.put, zs1, zs2, zs3, i64_w, i32_w]; rfl
           refine take_ (i := 3) (N := some 21) (v := ?_) (a' := ?_) #[true, true, true, true, true, false, false, true, false, true, false, false, false, false, false, false, false] rfl rfl (take_ofW HT_.out HW_.out (by kernel_rfl)) (fun _ _ _ h => h) (Or.inl ⟨by rfl, ?_⟩) hHeld ?_ ?_; rotate_left
           · rintro w' ⟨s0, zs1, zs2, zs3, s4, s5, s6⟩; go_simp
             with_reducible rfl
           rotate_left
           · simp only [Act.put, zs1, zs2, zs3, i64_w, i32_w]; rfl
           refine pure_ (i := 5) (N := some 23) (v := ?_) (a' := ?_) #[true, true, true, true, true, true, false, true, false, true, false, false, false, false, false, false, false] rfl rfl (any_of HT_.out (by kernel_rfl)) (fun _ _ _ h => h) (Or.inl ⟨by rfl, ?_⟩) ?_ ?_; rotate_left
           · intro w'; go_simp
             with_reducible rfl
           rotate_left
           · simp only [Act.put, zs1, zs2, zs3, i64_w, i32_w]; rfl
           refine take_ (i := 6) (N := some 24) (v := ?_) (a' := ?_) #[true, true, true, true, true, true, true, true, false, true, false, false, false, false, false, false, false] rfl rfl (take_ofW HT_.out HW_.out (by kernel_rfl)) (fun _ _ _ h => h) (Or.inl ⟨by rfl, ?_⟩) hHeld ?_ ?_; rotate_left
           · rintro w' ⟨s0, zs1, zs2, zs3, s4, s5, s6⟩; go_simp
             with_reducible rfl
           rotate_left
           · simp only [Act.put, zs1, zs2, zs3, i64_w, i32_w]; rfl
           refine take_ (i := 8) (N := some 26) (v := ?_) (a' := ?_) #[true, true, true, true, true, true, true, true, true, true, false, false, false, false, false, false, false] rfl rfl (take_ofW HT_.out HW_.out (by kernel_rfl)) (fun _ _ _ h => h) (Or.inl ⟨by rfl, ?_⟩) hHeld ?_ ?_; rotate_left
           · rintro w' ⟨s0, zs1, zs2, zs3, s4, s5, s6⟩; go_simp
             with_reducible rfl
           rotate_left
           · simp only [Act.put, zs1, zs2, zs3, i64_w, i32_w]; rfl
           refine pure_ (i := 10) (N := some 28) (v := ?_) (a' := ?_) #[true, true, true, true, true, true, true, true, true, true, true, false, false, false, false, false, false] rfl rfl (any_of HT_.out (by kernel_rfl)) (fun _ _ _ h => h) (Or.inl ⟨by rfl, ?_⟩) ?_ ?_; rotate_left
           · intro w'; go_simp
             with_reducible rfl
           rotate_left
           · simp only [Act.put, zs1, zs2, zs3, i64_w, i32_w]; rfl
           refine take_ (i := 11) (N := some 29) (v := ?_) (a' := ?_) #[true, true, true, true, true, true, true, true, true, true, true, true, false, false, false, false, false] rfl rfl (take_ofW HT_.out HW_.out (by kernel_rfl)) (fun _ _ _ h => h) (Or.inl ⟨by rfl, ?_⟩) hHeld ?_ ?_; rotate_left
           · rintro w' ⟨s0, zs1, zs2, zs3, s4, s5, s6⟩; go_simp
             with_reducible rfl
           rotate_left
           · simp only [Act.put, zs1, zs2, zs3, i64_w, i32_w]; rfl
           refine pure_ (i := 12) (N := some 30) (v := ?_) (a' := ?_) #[true, true, true, true, true, true, true, true, true, true, true, true, true, false, false, false, false] rfl rfl (any_of HT_.out (by kernel_rfl)) (fun _ _ _ h => h) (Or.inl ⟨by rfl, ?_⟩) ?_ ?_; rotate_left
           · intro w'; go_simp
             with_reducible rfl
           rotate_left
           · simp only [Act.put, zs1, zs2, zs3, i64_w, i32_w]; rfl
           refine one_ (i := 13) (N := some 31) #[true, true, true, true, true, true, true, true, true, true, true, true, true, true, false, false, false] rfl rfl (one_of HT_.out (by kernel_rfl)) (by decide) (fun K hK => ?_); refine value_ (w1 := ?_) (v := ?_) (by rfl) rfl ?_ ?_; rotate_left 2
           · go_simp
             constructor
             · rfl
             · rfl
           refine hK.out _ _ ⟨(blk_cell (blk_alloc BK146.out _) 0).trans rfl, (blk_cell (blk_alloc BK146.out _) 1).trans rfl, (blk_cell (blk_alloc BK141.out _) 0).trans rfl, (blk_cell (blk_alloc BK141.out _) 1).trans rfl, (blk_cell (blk_alloc BK141.out _) 2).trans rfl, (World.cell?_alloc_lt _ _ _ (World.block_lt_of_cell? _ _ (hHeld.2.2.2.2.2.1))).trans (hHeld.2.2.2.2.2.1), (World.cell?_alloc_lt _ _ _ (World.block_lt_of_cell? _ _ (((HB.out.cell (World.block_lt_of_cell? w _ hw148_0)).trans hw148_0)))).trans (((HB.out.cell (World.block_lt_of_cell? w _ hw148_0)).trans hw148_0))⟩ (fun hHeld => ?_); clear hK K; refine norm_ (a' := ?_) ?_ ?_; rotate_left
           · show Act.put _ (some 31) _ = _; simp only [Act.put, zs1, zs2, zs3, i64_w, i32_w]; rfl
           refine last_ (i := 14) (N := some 32) #[true, true, true, true, true, true, true, true, true, true, true, true, true, true, true, false, false] rfl rfl (one_of HT_.out (by kernel_rfl)) (by decide) (fun K hK => ?_); refine Kd.R_append_step (Kd.int .i64) (w0 := w) w.heap.size (by rfl) (.tmp 19) (.tmp 31) 22 3 (.int .i64 0) 8 rfl Try.underlying22 info3 rfl (by decide) (by omega) (.slice (some ad147) x147001_1.length co21) x147001_1 (wrap64 ((rd x147001_1 x4_1) + (rd l0_2 x4_1))) [.int .i64 (wrap64 ((rd x147001_1 x4_1) + (rd l0_2 x4_1)))] (fun _ => True) (fun _ => False) rfl rfl ?aP (fun _ hk => hk.elim) ?aF ?aO ?aB ?aS ?aL ?_; (case aP => exact rfl); (case aB => exact (nC HB)); (case aF => exact (fun _ _ => trivial)); (case aO => exact (nR HO_147001)); (case aS => exact (below_size (nC HB))); (case aL => have := LMc16.out; omega); intro v150 w22 ho hb hg hat; rw [← Ny149.out] at ho; replace BK141 := Aside0.mk (blk_grown (g := gb141) (o := .cells #[.int .i64 a0_0, .int .i64 a0_1, .slice (some ad148) l0_2.length c0_2] 24 (0, 0)) (nK BK141) hg (Kd.R_ne HO_147001.out BK141.out (by decide))); replace BK142 := Aside0.mk (blk_grown (g := gb142) (o := .cells #[.int .i64 0, .slice none 0 0] 78 (0, 0)) (nK BK142) hg (Kd.R_ne HO_147001.out BK142.out (by decide))); replace BK146 := Aside0.mk (blk_grown (g := gb146) (o := .cells #[.int .i64 a0_0, .slice (some ad147) x147001_1.length co21] 78 (0, 0)) (nK BK146) hg (Kd.R_ne HO_147001.out BK146.out (by decide))); replace HB := Aside0.mk (hb); have HO151 := Aside0.mk (ho); clear HO_147001; clear ho hb hg hat; obtain ⟨Ao23, co23, eo23⟩ := Kd.R_slice HO151.out; (first | subst eo23 | (injection eo23 with f1_ f2_ f3_; have f4_ := f1_.symm; have f5_ := f3_.symm; clear f1_ f2_ f3_; subst f4_; subst f5_)); refine hK.out _ _ ?_; clear hK K; refine norm_ (a' := ?_) ?_ ?_; rotate_left
           · show Act.put _ (some 32) _ = _; simp only [Act.put, zs1, zs2, zs3, i64_w, i32_w]; rfl
           refine pure_ (i := 15) (N := some 33) (v := ?_) (a' := ?_) #[true, true, true, true, true, true, true, true, true, true, true, true, true, true, true, true, false] rfl rfl (any_of HT_.out (by kernel_rfl)) (fun _ _ _ h => h) (Or.inl ⟨by rfl, ?_⟩) ?_ ?_; rotate_left
           · intro w'; go_simp
             with_reducible rfl
           rotate_left
           · simp only [Act.put, zs1, zs2, zs3, i64_w, i32_w]; rfl
           refine last_ (i := 16) (N := none) #[true, true, true, true, true, true, true, true, true, true, true, true, true, true, true, true, true] rfl rfl (one_of HT_.out (by kernel_rfl)) (by decide) (fun K hK => ?_); have hs24 : w22.cell? ⟨gb146, 1, none⟩ = some (.slice (some ad147) x147001_1.length co21) := (blk_cell BK146.out 1).trans rfl; have hfs24 := blk_frozen BK146.out 1; have hns24_0 := NB141_146.out; have hns24_1 := NB142_146.out; have hms24_0 := NB146_141.out; have hms24_1 := NB146_142.out; refine skip_ (w1 := ?_) (by rfl) rfl ?_ ?_; rotate_left
           · go_simp
             rfl
           refine hK.out _ _ ?_; clear hK K; refine done_ (done_of HT_.out (by kernel_rfl)) ?_; try go_wp2
           go_roundg k1
           case measure => have := HK1.out; omega
           case rel => exact ⟨(wrap64 (x4_1 + 1)), (y149), (.slice Ao23 y149.length co23), (by first | rfl | (simp; done) | (simp [*]; done)), H', ⟨by have := HK1.out; omega⟩, ⟨by (with_reducible repeat (first | apply Kd.R_alloc | apply Kd.R_drewN | apply Kd.R_drew)); exact Kd.R_mono (Kd.R_far (p := ⟨gb146, 1, none⟩) (Kd.R_types HO151.out BK146.out (by decide)) (fun _ hk => hk.2) (.slice Ao23 y149.length co23)) (fun _ hk => trivial)⟩, ⟨by (with_reducible repeat (first | refine blk_drewN ?_ _ | refine blk_drew ?_ | refine blk_alloc ?_ _)); refine blk_far ?_ NB141_146.out _; (with_reducible repeat (first | refine blk_drewN ?_ _ | refine blk_drew ?_ | refine blk_alloc ?_ _)); exact BK141.out⟩, ⟨by (with_reducible repeat (first | refine blk_drewN ?_ _ | refine blk_drew ?_ | refine blk_alloc ?_ _)); refine blk_far ?_ NB142_146.out _; (with_reducible repeat (first | refine blk_drewN ?_ _ | refine blk_drew ?_ | refine blk_alloc ?_ _)); exact BK142.out⟩, ⟨by (with_reducible repeat (first | refine blk_drewN ?_ _ | refine blk_drew ?_ | refine blk_alloc ?_ _)); refine blk_put (cs := #[.int .i64 a0_0, .slice (some ad147) x147001_1.length co21]) ?_ 1 _ rfl; (with_reducible repeat (first | refine blk_drewN ?_ _ | refine blk_drew ?_ | refine blk_alloc ?_ _)); exact BK146.out⟩, ⟨nC HB⟩⟩
         · rw [if_neg c16] at H; exact absurd H (by simp)
       · rw [if_neg c15] at H; exact absurd H (by simp)
     · rw [if_neg c14] at H; exact absurd H (by simp)
   · rw [if_neg c13] at H; have c13b0 : decide (x4_1 < (l0_2.length : Int)) = false := decide_eq_false c13; clear c13; simp only [Option.some.injEq, Prod.mk.injEq] at H; obtain ⟨rfl, rfl⟩ := H; have hnb25 := NB141_142.out; have hnc25 := NB142_141.out; have hnb26 := NB141_146.out; have hnc26 := NB146_141.out; obtain ⟨hcz27_0, hcz27_1, hcz27_2, hfz27_0, hfz27_1, hfz27_2⟩ := cz3 BK141; have hnb28 := NB146_142.out; have hnc28 := NB142_146.out; obtain ⟨hcz29_0, hcz29_1, hfz29_0, hfz29_1⟩ := cz2 BK146; obtain ⟨hcz30_0, hcz30_1, hfz30_0, hfz30_1⟩ := cz2 BK142; obtain ⟨Ao31, co31, eo31⟩ := Kd.R_slice HO_147001.out; subst eo31; go_wp2
     refine bodyPost_ret (results_cell_row rfl _ _ gb142 78 #[.int .i64 a0_0, .slice Ao31 x147001_1.length co31] (0, 0) _ rfl (by (with_reducible repeat (first | refine blk_drewN ?_ _ | refine blk_drew ?_ | refine blk_alloc ?_ _)); refine blk_put (cs := #[.int .i64 a0_0, .slice none 0 0]) ?_ 1 _ rfl; (with_reducible repeat (first | refine blk_drewN ?_ _ | refine blk_drew ?_ | refine blk_alloc ?_ _)); refine blk_put (cs := #[.int .i64 0, .slice none 0 0]) ?_ 0 _ rfl; (with_reducible repeat (first | refine blk_drewN ?_ _ | refine blk_drew ?_ | refine blk_alloc ?_ _)); exact BK142.out) Try.underlying78 rfl (by kernel_rfl)) rfl ?_; exact ⟨_, by first | rfl | (simp [errW_none, errW_some] <;> rfl) | (simp [*, errW_none, errW_some] <;> rfl), by (with_reducible repeat (first | apply Kd.R_alloc | apply Kd.R_drewN | apply Kd.R_drew)); exact Kd.R_mono (Kd.R_far (p := ⟨gb142, 1, none⟩) (Kd.R_far (p := ⟨gb142, 0, none⟩) (Kd.R_types HO_147001.out BK142.out (by decide)) (fun _ hk => hk.2) (.int .i64 a0_0)) (fun _ hk => hk.2) (.slice Ao31 x147001_1.length co31)) (fun _ hk => trivial), nC HB⟩
end Go.Proofs.Ytingjpcgehgiiaa.Pr
end
