/- What the proof of the law needs, trimmed and merged by wip/pack.py out of the texts YtingjpcgehgiiaaPrx3, YtingjpcgehgiiaaPrx4, YtingjpcgehgiiaaPrx23, YtingjpcgehgiiaaCvl, YtingjpcgehgiiaaExtClone, YtingjpcgehgiiaaPrx22, YtingjpcgehgiiaaAdp, YtingjpcgehgiiaaRowI, YtingjpcgehgiiaaShelf, YtingjpcgehgiiaaExtJoin, YtingjpcgehgiiaaExtBwd, YtingjpcgehgiiaaMak, YtingjpcgehgiiaaJnp, YtingjpcgehgiiaaCon, YtingjpcgehgiiaaSam. No condition. -/
import Derived.Lib.SliceRun
import Derived.Shelf.Sort.Plain
import Derived.Shelf.Small.Wraps
import Derived.Ground.Names2Prog
import Derived.Shelf.Slices.Clone
import Derived.Shelf.Slices.SearchI
import Derived.Shelf.Slices.In.SortNone
import Derived.Shelf.Slices.Empties
import Derived.Shelf.SlSorted.IsSorted
import Derived.Shelf.Spec.SlicesGrow
import Derived.Ground.Names8Prog
import Derived.Ground.SlsoProg
import Derived.Test.YtingjpcgehgiiaaProg
import Derived.RangeFuncBox
import Derived.RangeFuncLeaves
import Derived.RangeFuncFrom
import Derived.Shelf.Abstract
import Derived.WalkKit
import Derived.OwnWalkIn
import Derived.TacticsInMore
import Derived.LoopNIn
import Derived.LoopIn
import Derived.Test.YtingjpcgehgiiaaKCurveSplits0
import Derived.Test.YtingjpcgehgiiaaKCurveSplits1
section
namespace Go.Proofs.Ytingjpcgehgiiaa.Pr
open Go.RowKit Go.Proofs.YtingjpcgehgiiaaW.PrintWords Go.Proofs.YtingjpcgehgiiaaW.PrintLast Go.Proofs.YtingjpcgehgiiaaW.PrintMore
attribute [local go_sem] max2_int min2_int max_two min_two max_three min_three max_four min_four   -- for this text's walks alone
set_option linter.unusedVariables false
set_option linter.unusedSimpArgs false
def slices_BinarySearch_int_int.l0 : Nat → List Int → Int → Int → Int → Int → Option (Int × Bool)
 | 0, _, _, _, _, _ => none
 | k + 1, x0, x1, x6, x7, x8 => if x7 < x8 then (if 0 ≤ (wrap64 ((IntKind.u64.wrap (wrap64 (x7 + x8))) / 2)) then (if (wrap64 ((IntKind.u64.wrap (wrap64 (x7 + x8))) / 2)) < (x0.length : Int) then ((cmp_Less_int.f (rd x0 (wrap64 ((IntKind.u64.wrap (wrap64 (x7 + x8))) / 2))) x1).bind fun t123 => (if t123 = true then (slices_BinarySearch_int_int.l0 k x0 x1 x6 (wrap64 ((wrap64 ((IntKind.u64.wrap (wrap64 (x7 + x8))) / 2)) + 1)) x8) else (slices_BinarySearch_int_int.l0 k x0 x1 x6 x7 (wrap64 ((IntKind.u64.wrap (wrap64 (x7 + x8))) / 2))))) else (none)) else (none)) else (if x7 < x6 then (if 0 ≤ x7 then (if x7 < (x0.length : Int) then (if (rd x0 x7) = x1 then (some (x7, true)) else ((slices_isNaN_int.f (rd x0 x7)).bind fun t126 => (if t126 = true then ((slices_isNaN_int.f x1).bind fun t127 => (some (x7, t127))) else (some (x7, false))))) else (none)) else (none)) else (some (x7, false)))
def slices_BinarySearch_int_int.f (k : Nat) (l0 : List Int) (a1 : Int) : Option (Int × Bool) := slices_BinarySearch_int_int.l0 k l0 a1 (l0.length : Int) 0 (l0.length : Int)
theorem slices_BinarySearch_int_int.mono_l : ∀ k, (∀ y0 y1 y2 y3 y4, LeO (slices_BinarySearch_int_int.l0 k y0 y1 y2 y3 y4) (slices_BinarySearch_int_int.l0 (k + 1) y0 y1 y2 y3 y4))
 | 0 => fun _ _ _ _ _ r h => by simp [slices_BinarySearch_int_int.l0] at h
 | k + 1 => by
  have ih0 := slices_BinarySearch_int_int.mono_l k
  · intro y0 y1 y2 y3 y4; unfold slices_BinarySearch_int_int.l0
    repeat' first
    | (with_reducible exact ih0 _ _ _ _ _)
    | (with_reducible exact LeO.refl _)
    | (with_reducible exact LeO.none _)
    | (with_reducible refine LeO.ite ?_ ?_)
    | (with_reducible refine LeO.bind ?_ (fun _ => ?_))
    | exact ih0 _ _ _ _ _
    | exact LeO.none _
    | refine LeO.ite ?_ ?_
    | refine LeO.bind ?_ (fun _ => ?_)
theorem slices_BinarySearch_int_int.mono : ∀ a0 a1 k, LeO (slices_BinarySearch_int_int.f k a0 a1) (slices_BinarySearch_int_int.f (k + 1) a0 a1) := by
 intro a0 a1 k; have ih0 := slices_BinarySearch_int_int.mono_l k; unfold slices_BinarySearch_int_int.f
 repeat' first
  | (with_reducible exact ih0 _ _ _ _ _)
  | (with_reducible exact LeO.refl _)
  | (with_reducible exact LeO.none _)
  | (with_reducible refine LeO.ite ?_ ?_)
  | (with_reducible refine LeO.bind ?_ (fun _ => ?_))
  | exact ih0 _ _ _ _ _
  | exact LeO.none _
  | refine LeO.ite ?_ ?_
  | refine LeO.bind ?_ (fun _ => ?_)
set_option maxHeartbeats 8000000 in
set_option maxRecDepth 100000 in
theorem slices_BinarySearch_int_int.calls (k : Nat) (A0 : Option Addr) (c0 : Nat) (l0 : List Int) (a1 : Int) (r1 : Int) (r2 : Bool) (w : World) (hr0 : Kd.C (Kd.int .i64) w A0 l0.length l0) (hc0 : l0.length ≤ c0) (h : slices_BinarySearch_int_int.f k l0 a1 = some (r1, r2)) :
 Calls Try.prog 86 #[.slice A0 l0.length c0, .int .i64 a1] w fun e w' => e = .returned (.tuple #[.int .i64 r1, .bool r2]) ∧ Drawn0 w w' := by
 have HR0 := Aside0.mk hr0; have HC0 := Aside0.mk hc0; clear hr0 hc0; have H : (slices_BinarySearch_int_int.l0 k l0 a1 (l0.length : Int) 0 (l0.length : Int)) = some (r1, r2) := h; clear h; have H' := Aside0.mk H; clear H; go_enter Try.func86, Try.ntmps86
 go_wp2
 go_loopg [7, 8] k (fun kq v7 v8 w' => ∃ (x7_1 : Int) (x8_1 : Int), v7 = .int .i64 x7_1 ∧ v8 = .int .i64 x8_1 ∧ Aside0 (slices_BinarySearch_int_int.l0 kq l0 a1 (l0.length : Int) x7_1 x8_1 = some (r1, r2)) ∧ Aside0 (kq ≤ k) ∧ Drawn0 w w')
 case atStart => exact ⟨(0), ((l0.length : Int)), (by first | rfl | (simp; done) | (simp [*]; done)), (by first | rfl | (simp; done) | (simp [*]; done)), H', ⟨Nat.le_refl _⟩, by repeat (first | exact Drawn0.refl _ | apply Drawn0.step)⟩
 case round =>
  clear H'; obtain ⟨x7_1, x8_1, rfl, rfl, HA, HK1, ⟨m1, rfl⟩⟩ := hrel
  cases gk with
  | zero => exact absurd HA.out (by simp [slices_BinarySearch_int_int.l0])
  | succ k1 =>
   have H := HA.out; clear HA; simp only [slices_BinarySearch_int_int.l0] at H
   by_cases c3 : x7_1 < x8_1
   · rw [if_pos c3] at H; have c3b0 : decide (x7_1 < x8_1) = true := decide_eq_true c3; clear c3; obtain ⟨ji4, hji4⟩ : ∃ j_ : Int, (wrap64 ((IntKind.u64.wrap (wrap64 (x7_1 + x8_1))) / 2)) = j_ := ⟨_, rfl⟩; replace H : (if 0 ≤ (ji4) then (if (ji4) < (l0.length : Int) then ((cmp_Less_int.f (rd l0 (ji4)) a1).bind fun t123 => (if t123 = true then (slices_BinarySearch_int_int.l0 k1 l0 a1 (l0.length : Int) (wrap64 ((ji4) + 1)) x8_1) else (slices_BinarySearch_int_int.l0 k1 l0 a1 (l0.length : Int) x7_1 ji4))) else (none)) else (none)) = some (r1, r2) := by first | (rw [hji4] at H; exact H) | (simp only [hji4] at H ⊢; exact H)
     have hji4w : (IntKind.i64.wrap ((IntKind.u64.wrap (wrap64 (x7_1 + x8_1))) / 2)) = ji4 := (i64_w _).trans hji4
     by_cases c5 : 0 ≤ (ji4)
     · rw [if_pos c5] at H; have c5b0 : decide (0 ≤ (ji4)) = true := decide_eq_true c5; clear c5
       by_cases c6 : (ji4) < (l0.length : Int)
       · rw [if_pos c6] at H; have c6b0 : decide ((ji4) < (l0.length : Int)) = true := decide_eq_true c6; clear c6; replace H := Option.bind_eq_some_iff.mp H; obtain ⟨t123, A70, H⟩ := H; replace H : (if t123 = true then (slices_BinarySearch_int_int.l0 k1 l0 a1 (l0.length : Int) (wrap64 ((ji4) + 1)) x8_1) else (slices_BinarySearch_int_int.l0 k1 l0 a1 (l0.length : Int) x7_1 ji4)) = some (r1, r2) := H; have A7 := Aside0.mk A70; clear A70
         by_cases c8 : t123 = true
         · subst c8; replace H : (slices_BinarySearch_int_int.l0 k1 l0 a1 (l0.length : Int) (wrap64 ((ji4) + 1)) x8_1) = some (r1, r2) := by rw [if_pos rfl] at H; exact H
           have H' := Aside0.mk H; clear H; have p122 : 0 ≤ ((ji4) : Int) := of_decide_eq_true (by first | (with_reducible assumption) | assumption); have q122 : (ji4) < (l0.length : Int) := of_decide_eq_true (by first | (with_reducible assumption) | assumption); obtain ⟨ad122, e122, hx122_0⟩ := Kd.at_int HR0.out (ji4) p122 q122
           cases e122
           replace p122 := eq_true p122; replace q122 := eq_true q122; go_wp2_with (first | ((with_reducible refine gate_callee (f := 82) rfl ?_); refine goesL_ (some 27) rfl rfl Try.func82 (by kernel_rfl) rfl #[.int .i64 (rd l0 (ji4)), .int .i64 a1] rfl (by (try simp only [List.map_toArray, List.map_cons, List.map_nil]); first | done | (simp only [hji4]; rfl) | rfl | (simp only [List.length_drop, List.length_take]; rfl)) ?_; (with_reducible refine (cmp_Less_int.calls (rd l0 (ji4)) a1 true _ A7.out).mono ?_); rintro e w' ⟨rfl, ⟨nd, rfl⟩⟩; refine ⟨_, rfl, ?_⟩))
           go_roundg k1
           case measure => have := HK1.out; omega
           case rel => exact ⟨(wrap64 ((ji4) + 1)), (x8_1), (by first | rfl | (simp; done) | (simp only [← hji4] <;> (first | rfl | simp)) | (simp [*]; done)), (by first | rfl | (simp; done) | (simp [*]; done)), H', ⟨by have := HK1.out; omega⟩, by repeat (first | exact Drawn0.refl _ | apply Drawn0.step)⟩
         · replace c8 := Bool.eq_false_iff.mpr c8; subst c8; replace H : (slices_BinarySearch_int_int.l0 k1 l0 a1 (l0.length : Int) x7_1 ji4) = some (r1, r2) := by rw [if_neg (show ¬ (false = true) by decide)] at H; exact H
           have H' := Aside0.mk H; clear H; have p122 : 0 ≤ ((ji4) : Int) := of_decide_eq_true (by first | (with_reducible assumption) | assumption); have q122 : (ji4) < (l0.length : Int) := of_decide_eq_true (by first | (with_reducible assumption) | assumption); obtain ⟨ad122, e122, hx122_0⟩ := Kd.at_int HR0.out (ji4) p122 q122
           cases e122
           replace p122 := eq_true p122; replace q122 := eq_true q122; go_wp2_with (first | ((with_reducible refine gate_callee (f := 82) rfl ?_); refine goesL_ (some 27) rfl rfl Try.func82 (by kernel_rfl) rfl #[.int .i64 (rd l0 (ji4)), .int .i64 a1] rfl (by (try simp only [List.map_toArray, List.map_cons, List.map_nil]); first | done | (simp only [hji4]; rfl) | rfl | (simp only [List.length_drop, List.length_take]; rfl)) ?_; (with_reducible refine (cmp_Less_int.calls (rd l0 (ji4)) a1 false _ A7.out).mono ?_); rintro e w' ⟨rfl, ⟨nd, rfl⟩⟩; refine ⟨_, rfl, ?_⟩))
           go_roundg k1
           case measure => have := HK1.out; omega
           case rel => exact ⟨(x7_1), (ji4), (by first | rfl | (simp; done) | (simp [*]; done)), (by first | rfl | (simp; done) | (simp only [← hji4] <;> (first | rfl | simp)) | (simp [*]; done)), H', ⟨by have := HK1.out; omega⟩, by repeat (first | exact Drawn0.refl _ | apply Drawn0.step)⟩
       · rw [if_neg c6] at H; exact absurd H (by simp)
     · rw [if_neg c5] at H; exact absurd H (by simp)
   · rw [if_neg c3] at H; have c3b0 : decide (x7_1 < x8_1) = false := decide_eq_false c3; clear c3
     by_cases c9 : x7_1 < (l0.length : Int)
     · rw [if_pos c9] at H; have c9b0 : decide (x7_1 < (l0.length : Int)) = true := decide_eq_true c9; clear c9
       by_cases c10 : 0 ≤ x7_1
       · rw [if_pos c10] at H; have c10b0 : decide (0 ≤ x7_1) = true := decide_eq_true c10; clear c10
         by_cases c11 : x7_1 < (l0.length : Int)
         · rw [if_pos c11] at H; have c11b0 : decide (x7_1 < (l0.length : Int)) = true := decide_eq_true c11; clear c11
           by_cases c12 : (rd l0 x7_1) = a1
           · rw [if_pos c12] at H; have c12b0 : ((rd l0 x7_1) == a1) = true := beq_iff_eq.mpr c12; have c12b1 : ((rd l0 x7_1) != a1) = false := bne_eq_false_iff_eq.mpr c12; clear c12; simp only [Option.some.injEq, Prod.mk.injEq] at H; obtain ⟨rfl, rfl⟩ := H; have p124 : 0 ≤ (x7_1 : Int) := of_decide_eq_true (by first | (with_reducible assumption) | assumption); have q124 : x7_1 < (l0.length : Int) := of_decide_eq_true (by first | (with_reducible assumption) | assumption); obtain ⟨ad124, e124, hx124_0⟩ := Kd.at_int HR0.out x7_1 p124 q124
             cases e124
             replace p124 := eq_true p124; replace q124 := eq_true q124; go_wp2
             go_ret2
             exact ⟨by first | rfl | (simp; done) | (simp [*]; done), by repeat (first | exact Drawn0.refl _ | apply Drawn0.step)⟩
           · rw [if_neg c12] at H; have c12b0 : ((rd l0 x7_1) == a1) = false := beq_eq_false_iff_ne.mpr c12; have c12b1 : ((rd l0 x7_1) != a1) = true := bne_iff_ne.mpr c12; replace H := Option.bind_eq_some_iff.mp H; obtain ⟨t126, A130, H⟩ := H; replace H : (if t126 = true then ((slices_isNaN_int.f a1).bind fun t127 => (some (x7_1, t127))) else (some (x7_1, false))) = some (r1, r2) := H; have A13 := Aside0.mk A130; clear A130
             by_cases c14 : t126 = true
             · subst c14; replace H : ((slices_isNaN_int.f a1).bind fun t127 => (some (x7_1, t127))) = some (r1, r2) := by rw [if_pos rfl] at H; exact H
               replace H := Option.bind_eq_some_iff.mp H; obtain ⟨t127, A150, H⟩ := H; replace H : (some (x7_1, t127)) = some (r1, r2) := H; have A15 := Aside0.mk A150; clear A150; simp only [Option.some.injEq, Prod.mk.injEq] at H; obtain ⟨rfl, rfl⟩ := H; have p124 : 0 ≤ (x7_1 : Int) := of_decide_eq_true (by first | (with_reducible assumption) | assumption); have q124 : x7_1 < (l0.length : Int) := of_decide_eq_true (by first | (with_reducible assumption) | assumption); obtain ⟨ad124, e124, hx124_0⟩ := Kd.at_int HR0.out x7_1 p124 q124
               cases e124
               replace p124 := eq_true p124; replace q124 := eq_true q124; have p125 : 0 ≤ (x7_1 : Int) := of_decide_eq_true (by first | (with_reducible assumption) | assumption); have q125 : x7_1 < (l0.length : Int) := of_decide_eq_true (by first | (with_reducible assumption) | assumption); obtain ⟨ad125, e125, hx125_0⟩ := Kd.at_int HR0.out x7_1 p125 q125; obtain rfl : ad124 = ad125 := (by injection e125); replace p125 := eq_true p125; replace q125 := eq_true q125; go_wp2_with (first | (go_at_call 99; (with_reducible refine (slices_isNaN_int.calls (rd l0 x7_1) true _ A13.out).mono ?_); rintro e w' ⟨rfl, ⟨nd, rfl⟩⟩) | (go_at_call 99; (with_reducible refine (slices_isNaN_int.calls a1 t127 _ A15.out).mono ?_); rintro e w' ⟨rfl, ⟨nd, rfl⟩⟩))
               go_ret2
               exact ⟨by first | rfl | (simp; done) | (simp [*]; done), by repeat (first | exact Drawn0.refl _ | apply Drawn0.step)⟩
             · replace c14 := Bool.eq_false_iff.mpr c14; subst c14; replace H : (some (x7_1, false)) = some (r1, r2) := by rw [if_neg (show ¬ (false = true) by decide)] at H; exact H
               simp only [Option.some.injEq, Prod.mk.injEq] at H; obtain ⟨rfl, rfl⟩ := H; have p124 : 0 ≤ (x7_1 : Int) := of_decide_eq_true (by first | (with_reducible assumption) | assumption); have q124 : x7_1 < (l0.length : Int) := of_decide_eq_true (by first | (with_reducible assumption) | assumption); obtain ⟨ad124, e124, hx124_0⟩ := Kd.at_int HR0.out x7_1 p124 q124
               cases e124
               replace p124 := eq_true p124; replace q124 := eq_true q124; have p125 : 0 ≤ (x7_1 : Int) := of_decide_eq_true (by first | (with_reducible assumption) | assumption); have q125 : x7_1 < (l0.length : Int) := of_decide_eq_true (by first | (with_reducible assumption) | assumption); obtain ⟨ad125, e125, hx125_0⟩ := Kd.at_int HR0.out x7_1 p125 q125; obtain rfl : ad124 = ad125 := (by injection e125); replace p125 := eq_true p125; replace q125 := eq_true q125; go_wp2_with (first | (go_at_call 99; (with_reducible refine (slices_isNaN_int.calls (rd l0 x7_1) false _ A13.out).mono ?_); rintro e w' ⟨rfl, ⟨nd, rfl⟩⟩))
               go_ret2
               exact ⟨by first | rfl | (simp; done) | (simp [*]; done), by repeat (first | exact Drawn0.refl _ | apply Drawn0.step)⟩
         · rw [if_neg c11] at H; exact absurd H (by simp)
       · rw [if_neg c10] at H; exact absurd H (by simp)
     · rw [if_neg c9] at H; have c9b0 : decide (x7_1 < (l0.length : Int)) = false := decide_eq_false c9; clear c9; simp only [Option.some.injEq, Prod.mk.injEq] at H; obtain ⟨rfl, rfl⟩ := H; go_wp2
       go_ret2
       exact ⟨by first | rfl | (simp; done) | (simp [*]; done), by repeat (first | exact Drawn0.refl _ | apply Drawn0.step)⟩
def kimberliteref03_Row_To.f (a0_0 : Int) (l0_1 : List Int) : Option (Int) := some (wrap64 ((wrap64 (a0_0 + (l0_1.length : Int))) - 1))
set_option maxHeartbeats 8000000 in
set_option maxRecDepth 100000 in
theorem kimberliteref03_Row_To.calls (a0_0 : Int) (A0_1 : Option Addr) (c0_1 : Nat) (l0_1 : List Int) (r : Int) (w : World) (hr0_1 : Kd.C (Kd.int .i64) w A0_1 l0_1.length l0_1) (hc0_1 : l0_1.length ≤ c0_1) (h : kimberliteref03_Row_To.f a0_0 l0_1 = some r) :
 Calls Try.prog 65 #[.agg #[.int .i64 a0_0, .slice A0_1 l0_1.length c0_1]] w fun e w' => e = .returned (.int .i64 r) ∧ Below w.heap.size w w' := by
 have hu78 := Try.underlying78; have HR0_1 := Aside0.mk hr0_1; have HC0_1 := Aside0.mk hc0_1; clear hr0_1 hc0_1; have HB := Aside0.mk (Below.refl w.heap.size w); have H : (some (wrap64 ((wrap64 (a0_0 + (l0_1.length : Int))) - 1))) = some r := h; clear h; obtain rfl := Option.some.inj H; go_enter Try.func65, Try.ntmps65
 go_wp2_with (first | ((with_reducible refine gate_dst (N := 1) rfl ?_); refine box_event ?hg (N := 1) ?hd (cs := #[.int .i64 a0_0, .slice A0_1 l0_1.length c0_1]) (t := 78) ?hr ?_; (case hd => rfl); (case hg => rfl); (case hr => first | (go_simp; done) | (go_simp; rfl)); intro gb134 hg w2 hbox hb; have BK134 := Aside0.mk (hbox); have GW134 := Aside0.mk ((by rw [hg]; exact (below_size (nC HB)) : w.heap.size ≤ gb134)); have GE134 := Aside0.mk ((by rw [hg]; exact (below_size (nC HB)) : w.heap.size ≤ gb134)); replace HB := Aside0.mk (below_step (nC HB) hb); clear hb hbox hg; obtain ⟨hcz3_0, hcz3_1, hfz3_0, hfz3_1⟩ := cz2 BK134))
 go_ret
 exact ⟨by first | rfl | (simp [errW_none, errW_some] <;> rfl) | (simp [*, errW_none, errW_some] <;> rfl), nC HB⟩
def kimberliteref03_Row_Value.f (a0_0 : Int) (l0_1 : List Int) (a1 : Int) : Option (Int) := if 0 ≤ (wrap64 (a1 - a0_0)) then (if (wrap64 (a1 - a0_0)) < (l0_1.length : Int) then (some (rd l0_1 (wrap64 (a1 - a0_0)))) else (none)) else (none)
set_option maxHeartbeats 8000000 in
set_option maxRecDepth 100000 in
theorem kimberliteref03_Row_Value.calls (a0_0 : Int) (A0_1 : Option Addr) (c0_1 : Nat) (l0_1 : List Int) (a1 : Int) (r : Int) (w : World) (hr0_1 : Kd.C (Kd.int .i64) w A0_1 l0_1.length l0_1) (hc0_1 : l0_1.length ≤ c0_1) (h : kimberliteref03_Row_Value.f a0_0 l0_1 a1 = some r) :
 Calls Try.prog 68 #[.agg #[.int .i64 a0_0, .slice A0_1 l0_1.length c0_1], .int .i64 a1] w fun e w' => e = .returned (.int .i64 r) ∧ Below w.heap.size w w' := by
 have hu78 := Try.underlying78; have HR0_1 := Aside0.mk hr0_1; have HC0_1 := Aside0.mk hc0_1; clear hr0_1 hc0_1; have HB := Aside0.mk (Below.refl w.heap.size w); have H : (if 0 ≤ (wrap64 (a1 - a0_0)) then (if (wrap64 (a1 - a0_0)) < (l0_1.length : Int) then (some (rd l0_1 (wrap64 (a1 - a0_0)))) else (none)) else (none)) = some r := h; clear h; obtain ⟨ji3, hji3⟩ : ∃ j_ : Int, (wrap64 (a1 - a0_0)) = j_ := ⟨_, rfl⟩; replace H : (if 0 ≤ (ji3) then (if (ji3) < (l0_1.length : Int) then (some (rd l0_1 (ji3))) else (none)) else (none)) = some r := by first | (rw [hji3] at H; exact H) | (simp only [hji3] at H ⊢; exact H)
 have hji3w : (IntKind.i64.wrap (a1 - a0_0)) = ji3 := (i64_w _).trans hji3
 by_cases c4 : 0 ≤ (ji3)
 · rw [if_pos c4] at H; have c4b0 : decide (0 ≤ (ji3)) = true := decide_eq_true c4; clear c4
   by_cases c5 : (ji3) < (l0_1.length : Int)
   · rw [if_pos c5] at H; have c5b0 : decide ((ji3) < (l0_1.length : Int)) = true := decide_eq_true c5; clear c5; obtain rfl := Option.some.inj H; go_enter Try.func68, Try.ntmps68
     go_wp2_with (first | ((with_reducible refine gate_dst (N := 2) rfl ?_); refine box_event ?hg (N := 2) ?hd (cs := #[.int .i64 a0_0, .slice A0_1 l0_1.length c0_1]) (t := 78) ?hr ?_; (case hd => rfl); (case hg => rfl); (case hr => first | (go_simp; done) | (go_simp; rfl)); intro gb135 hg w6 hbox hb; have BK135 := Aside0.mk (hbox); have GW135 := Aside0.mk ((by rw [hg]; exact (below_size (nC HB)) : w.heap.size ≤ gb135)); have GE135 := Aside0.mk ((by rw [hg]; exact (below_size (nC HB)) : w.heap.size ≤ gb135)); replace HB := Aside0.mk (below_step (nC HB) hb); clear hb hbox hg; obtain ⟨hcz7_0, hcz7_1, hfz7_0, hfz7_1⟩ := cz2 BK135; have p136 : 0 ≤ ((ji3) : Int) := of_decide_eq_true (by first | (with_reducible assumption) | assumption); have q136 : (ji3) < (l0_1.length : Int) := of_decide_eq_true (by first | (with_reducible assumption) | assumption); obtain ⟨ad136, e136, hx136_0⟩ := Kd.at_int HR0_1.out (ji3) p136 q136; cases e136; replace hx136_0 := (HB.out.cell (World.block_lt_of_cell? w _ hx136_0)).trans hx136_0; replace p136 := eq_true p136; replace q136 := eq_true q136))
     go_ret
     exact ⟨by first | rfl | (simp [errW_none, errW_some] <;> rfl) | (simp only [← hji3]; first | rfl | (simp [errW_none, errW_some] <;> rfl)) | (simp [*, errW_none, errW_some] <;> rfl), nC HB⟩
   · rw [if_neg c5] at H; exact absurd H (by simp)
 · rw [if_neg c4] at H; exact absurd H (by simp)
end Go.Proofs.Ytingjpcgehgiiaa.Pr
end
section
namespace Go.Proofs.Ytingjpcgehgiiaa.Pr
open Go.RowKit Go.Proofs.YtingjpcgehgiiaaW.PrintWords Go.Proofs.YtingjpcgehgiiaaW.PrintLast Go.Proofs.YtingjpcgehgiiaaW.PrintMore
attribute [local go_sem] max2_int min2_int max_two min_two max_three min_three max_four min_four   -- for this text's walks alone
set_option linter.unusedVariables false
set_option linter.unusedSimpArgs false
def kimberliteref03_Out.l0 : Nat → Int → Int → Int → List Int → Int → List Int → Option (Int × List Int)
 | 0, _, _, _, _, _, _ => none
 | k + 1, x4, x142000, x142001, x142002, x147000, x147001 => if x4 < (x142002.length : Int) then (if 0 ≤ x4 then (if x4 < (x147001.length : Int) then (if x147001.length < 17592186044416 then (kimberliteref03_Out.l0 k (wrap64 (x4 + 1)) x142000 x142001 x142002 x147000 (x147001 ++ [wrap64 ((rd x147001 x4) + (rd x142002 x4))])) else (none)) else (none)) else (none)) else (some (x147000, x147001))
def kimberliteref03_Out.f (k : Nat) (a0_0 : Int) (a0_1 : Int) (l0_2 : List Int) : Option (Int × List Int) := kimberliteref03_Out.l0 k 0 a0_0 a0_1 l0_2 a0_0 (([a0_1] : List Int))
theorem kimberliteref03_Out.mono_l : ∀ k, (∀ y0 y1 y2 y3 y4 y5, LeO (kimberliteref03_Out.l0 k y0 y1 y2 y3 y4 y5) (kimberliteref03_Out.l0 (k + 1) y0 y1 y2 y3 y4 y5))
 | 0 => fun _ _ _ _ _ _ r h => by simp [kimberliteref03_Out.l0] at h
 | k + 1 => by
  have ih0 := kimberliteref03_Out.mono_l k
  · intro y0 y1 y2 y3 y4 y5; unfold kimberliteref03_Out.l0
    repeat' first
    | (with_reducible exact ih0 _ _ _ _ _ _)
    | (with_reducible exact LeO.refl _)
    | (with_reducible exact LeO.none _)
    | (with_reducible refine LeO.ite ?_ ?_)
    | (with_reducible refine LeO.bind ?_ (fun _ => ?_))
    | exact ih0 _ _ _ _ _ _
    | exact LeO.none _
    | refine LeO.ite ?_ ?_
    | refine LeO.bind ?_ (fun _ => ?_)
theorem kimberliteref03_Out.mono : ∀ a0 a1 a2 k, LeO (kimberliteref03_Out.f k a0 a1 a2) (kimberliteref03_Out.f (k + 1) a0 a1 a2) := by
 intro a0 a1 a2 k; have ih0 := kimberliteref03_Out.mono_l k; unfold kimberliteref03_Out.f
 repeat' first
  | (with_reducible exact ih0 _ _ _ _ _ _)
  | (with_reducible exact LeO.refl _)
  | (with_reducible exact LeO.none _)
  | (with_reducible refine LeO.ite ?_ ?_)
  | (with_reducible refine LeO.bind ?_ (fun _ => ?_))
  | exact ih0 _ _ _ _ _ _
  | exact LeO.none _
  | refine LeO.ite ?_ ?_
  | refine LeO.bind ?_ (fun _ => ?_)
def kimberliteref03_Out.T5 : Bool × List (List Nat × List Nat) := (true, [([], []), ([0], [0]), ([], []), ([2], [2]), ([], []), ([3, 4], [3, 4]), ([5], [5]), ([], []), ([7], [7]), ([], []), ([8, 9], [8, 9]), ([10], [10]), ([6, 11], [6, 11]), ([12], [12]), ([1, 13], [1, 13]), ([0, 1, 2, 3, 4, 5, 6, 7, 8, 9, 10, 11, 12, 13, 14], []), ([15, 14, 14, 0, 1, 2, 3, 4, 5, 6, 7, 8, 9, 10, 11, 12, 13, 14], [14, 15])])
def kimberliteref03_Out.B5 : List Nat := [0, 1, 0, 4, 0, 28, 60, 0, 128, 0, 896, 1920, 4092, 8188, 16383, 32767, 65535]
theorem kimberliteref03_Out.tab5 : rtab .any (opsOf Try.f64 5) = kimberliteref03_Out.T5 := by kernel_rfl
theorem kimberliteref03_Out.bits5 : waitsOk kimberliteref03_Out.T5.2 kimberliteref03_Out.B5 = true := by kernel_rfl
set_option maxHeartbeats 8000000 in
set_option maxRecDepth 100000 in
theorem kimberliteref03_Out.calls (k : Nat) (a0_0 : Int) (a0_1 : Int) (A0_2 : Option Addr) (c0_2 : Nat) (l0_2 : List Int) (r1 : Int) (r2 : List Int) (w : World) (hr0_2 : Kd.C (Kd.int .i64) w A0_2 l0_2.length l0_2) (hc0_2 : l0_2.length ≤ c0_2) (h : kimberliteref03_Out.f k a0_0 a0_1 l0_2 = some (r1, r2)) :
 Calls Try.prog 64 #[.agg #[.int .i64 a0_0, .int .i64 a0_1, .slice A0_2 l0_2.length c0_2]] w fun e w' => ∃ v1_ : Value, e = .returned (.agg #[.int .i64 r1, v1_]) ∧ Kd.R (Kd.int .i64) 3 w' w.heap.size (fun _ => True) v1_ r2 ∧ Below w.heap.size w w' := by
 have hu24 := Try.underlying24; have hu78 := Try.underlying78; have HR0_2 := Aside0.mk hr0_2; have HC0_2 := Aside0.mk hc0_2; clear hr0_2 hc0_2; have HB := Aside0.mk (Below.refl w.heap.size w); have H : (kimberliteref03_Out.l0 k 0 a0_0 a0_1 l0_2 a0_0 (([a0_1] : List Int))) = some (r1, r2) := h; clear h; obtain ⟨y143, hy143⟩ : ∃ y_ : List Int, y_ = (([a0_1] : List Int)) := ⟨_, rfl⟩; replace H : (kimberliteref03_Out.l0 k 0 a0_0 a0_1 l0_2 a0_0 y143) = some (r1, r2) := by first | (rw [hy143]; with_reducible exact H) | (have H2_ := (Option.bind_some _ _).symm.trans H; rw [hy143]; with_reducible exact H2_) | (have H2_ := (Option.bind_some _ _).symm.trans H; with_reducible exact H2_) | with_reducible exact H | (rw [hy143]; exact H) | exact H
 have Ny143 := Aside0.mk hy143; clear hy143; have H' := Aside0.mk H; clear H; go_enter Try.func64, Try.ntmps64
 go_wp2_with (first | ((with_reducible refine gate_dst (N := 1) rfl ?_); refine box_event ?hg (N := 1) ?hd (cs := #[.int .i64 a0_0, .int .i64 a0_1, .slice A0_2 l0_2.length c0_2]) (t := 24) ?hr ?_; (case hd => rfl); (case hg => rfl); (case hr => first | (go_simp; done) | (go_simp; rfl)); intro gb141 hg w2 hbox hb; have BK141 := Aside0.mk (hbox); have GW141 := Aside0.mk ((by rw [hg]; exact (below_size (nC HB)) : w.heap.size ≤ gb141)); have GE141 := Aside0.mk ((by rw [hg]; exact (below_size (nC HB)) : w.heap.size ≤ gb141)); replace HB := Aside0.mk (below_step (nC HB) hb); clear hb hbox hg) | ((with_reducible refine gate_dst (N := 2) rfl ?_); refine box_event ?hg (N := 2) ?hd (cs := #[.int .i64 0, .slice none 0 0]) (t := 78) ?hr ?_; (case hd => rfl); (case hg => rfl); (case hr => first | (go_simp; done) | (go_simp; rfl)); intro gb142 hg w3 hbox hb; have BK142 := Aside0.mk (hbox); have GW142 := Aside0.mk ((by rw [hg]; exact (below_size (nC HB)) : w.heap.size ≤ gb142)); have GE142 := Aside0.mk ((by rw [hg]; exact (below_size (nC HB)) : w.heap.size ≤ gb142)); replace HB := Aside0.mk (below_step (nC HB) hb); have NB141_142 := Aside0.mk ((by rw [hg]; exact Nat.ne_of_lt (blk_lt (nK BK141)) : gb141 ≠ gb142)); have NB142_141 := Aside0.mk ((by rw [hg]; exact Nat.ne_of_gt (blk_lt (nK BK141)) : gb142 ≠ gb141)); replace BK141 := Aside0.mk (nB BK141 hb); clear hb hbox hg; have hnb4 := NB141_142.out; have hnc4 := NB142_141.out; obtain ⟨hcz5_0, hcz5_1, hcz5_2, hfz5_0, hfz5_1, hfz5_2⟩ := cz3 BK141) | ((with_reducible refine gate_dst (N := 9) rfl ?_); refine Kd.R_lit (Kd.int .i64) _ 3 ?hg (N := 9) ?hd (xs := ([a0_1] : List Int)) (inner := [.int .i64 a0_1]) (ok := fun _ => True) (okp := fun _ => True) ?hr ?hp (fun _ hk => hk) trivial (Below.refl _ _) (Nat.le_refl _) (by simp) ?_; (case hd => rfl); (case hg => rfl); (case hr => first | (go_simp; done) | (go_simp; rfl)); (case hp => exact (Reps.one (show Kd.M (Kd.int .i64) _ _ _ a0_1 [.int .i64 a0_1] from rfl) (Reps.none _ _))); intro v144 w6 ho7 hb hg_ hnew_; clear hg_ hnew_; (first | rw [← Ny143.out] at ho7 | (simp only [Int.reduceToNat] at ho7; rw [← Ny143.out] at ho7)); have HO145 := Aside0.mk (Kd.R_lower ho7 (below_size (nC HB))); replace BK141 := Aside0.mk (nB BK141 hb); replace BK142 := Aside0.mk (nB BK142 hb); replace HB := Aside0.mk (below_step (nC HB) hb); clear hb ho7; obtain ⟨Ao8, co8, eo8⟩ := Kd.R_slice HO145.out; subst eo8) | ((with_reducible refine gate_dst (N := 3) rfl ?_); refine box_event ?hg (N := 3) ?hd (cs := #[.int .i64 0, .slice none 0 0]) (t := 78) ?hr ?_; (case hd => rfl); (case hg => rfl); (case hr => first | (go_simp; done) | (go_simp; rfl)); intro gb146 hg w9 hbox hb; replace HO145 := Aside0.mk (Kd.R_below (nR HO145) hb); have BK146 := Aside0.mk (hbox); have GW146 := Aside0.mk ((by rw [hg]; exact (below_size (nC HB)) : w.heap.size ≤ gb146)); have GE146 := Aside0.mk ((by rw [hg]; exact (below_size (nC HB)) : w.heap.size ≤ gb146)); replace HB := Aside0.mk (below_step (nC HB) hb); have NB141_146 := Aside0.mk ((by rw [hg]; exact Nat.ne_of_lt (blk_lt (nK BK141)) : gb141 ≠ gb146)); have NB146_141 := Aside0.mk ((by rw [hg]; exact Nat.ne_of_gt (blk_lt (nK BK141)) : gb146 ≠ gb141)); replace BK141 := Aside0.mk (nB BK141 hb); have NB142_146 := Aside0.mk ((by rw [hg]; exact Nat.ne_of_lt (blk_lt (nK BK142)) : gb142 ≠ gb146)); have NB146_142 := Aside0.mk ((by rw [hg]; exact Nat.ne_of_gt (blk_lt (nK BK142)) : gb146 ≠ gb142)); replace BK142 := Aside0.mk (nB BK142 hb); clear hb hbox hg; have hnb10 := NB146_141.out; have hnc10 := NB141_146.out; have hnb11 := NB146_142.out; have hnc11 := NB142_146.out; obtain ⟨hcz12_0, hcz12_1, hfz12_0, hfz12_1⟩ := cz2 BK146))
 go_loopg [4] k (fun kq v4 w' => ∃ (x4_1 : Int) (x147001_1 : List Int) (u147001 : Value), v4 = .int .i64 x4_1 ∧ Aside0 (kimberliteref03_Out.l0 kq x4_1 a0_0 a0_1 l0_2 a0_0 x147001_1 = some (r1, r2)) ∧ Aside0 (kq ≤ k) ∧ Aside0 (Kd.R (Kd.int .i64) 3 w' w.heap.size (fun _ => True) u147001 x147001_1) ∧ Aside0 (w'.heap[gb141]? = some (.cells #[.int .i64 a0_0, .int .i64 a0_1, (.slice A0_2 l0_2.length c0_2)] 24 (0, 0))) ∧ Aside0 (w'.heap[gb142]? = some (.cells #[.int .i64 0, (.slice none 0 0)] 78 (0, 0))) ∧ Aside0 (w'.heap[gb146]? = some (.cells #[.int .i64 a0_0, u147001] 78 (0, 0))) ∧ Aside0 (Below w.heap.size w w'))
 case atStart => exact ⟨(0), (y143), (.slice Ao8 y143.length co8), (by first | rfl | (simp; done) | (simp [*]; done)), H', ⟨Nat.le_refl _⟩, ⟨by (with_reducible repeat (first | apply Kd.R_alloc | apply Kd.R_drewN | apply Kd.R_drew)); exact Kd.R_mono (Kd.R_far (p := ⟨gb146, 1, none⟩) (Kd.R_far (p := ⟨gb146, 0, none⟩) (Kd.R_types HO145.out BK146.out (by decide)) (fun _ hk => hk.2) (.int .i64 a0_0)) (fun _ hk => hk.2) (.slice Ao8 y143.length co8)) (fun _ hk => trivial)⟩, ⟨by (with_reducible repeat (first | refine blk_drewN ?_ _ | refine blk_drew ?_ | refine blk_alloc ?_ _)); refine blk_far ?_ NB141_146.out _; (with_reducible repeat (first | refine blk_drewN ?_ _ | refine blk_drew ?_ | refine blk_alloc ?_ _)); refine blk_far ?_ NB141_146.out _; (with_reducible repeat (first | refine blk_drewN ?_ _ | refine blk_drew ?_ | refine blk_alloc ?_ _)); exact BK141.out⟩, ⟨by (with_reducible repeat (first | refine blk_drewN ?_ _ | refine blk_drew ?_ | refine blk_alloc ?_ _)); refine blk_far ?_ NB142_146.out _; (with_reducible repeat (first | refine blk_drewN ?_ _ | refine blk_drew ?_ | refine blk_alloc ?_ _)); refine blk_far ?_ NB142_146.out _; (with_reducible repeat (first | refine blk_drewN ?_ _ | refine blk_drew ?_ | refine blk_alloc ?_ _)); exact BK142.out⟩, ⟨by (with_reducible repeat (first | refine blk_drewN ?_ _ | refine blk_drew ?_ | refine blk_alloc ?_ _)); refine blk_put (cs := #[.int .i64 a0_0, .slice none 0 0]) ?_ 1 _ rfl; (with_reducible repeat (first | refine blk_drewN ?_ _ | refine blk_drew ?_ | refine blk_alloc ?_ _)); refine blk_put (cs := #[.int .i64 0, .slice none 0 0]) ?_ 0 _ rfl; (with_reducible repeat (first | refine blk_drewN ?_ _ | refine blk_drew ?_ | refine blk_alloc ?_ _)); exact BK146.out⟩, ⟨nC HB⟩⟩
 case round =>
  clear H'; obtain ⟨x4_1, x147001_1, u147001, rfl, HA, HK1, HO_147001, BK141, BK142, BK146, HB⟩ := hrel
  cases gk with
  | zero => exact absurd HA.out (by simp [kimberliteref03_Out.l0])
  | succ k1 =>
   have H := HA.out; clear HA; simp only [kimberliteref03_Out.l0] at H
   by_cases c13 : x4_1 < (l0_2.length : Int)
   · rw [if_pos c13] at H; have c13b0 : decide (x4_1 < (l0_2.length : Int)) = true := decide_eq_true c13; clear c13
     by_cases c14 : 0 ≤ x4_1
     · rw [if_pos c14] at H; have c14b0 : decide (0 ≤ x4_1) = true := decide_eq_true c14; clear c14
       by_cases c15 : x4_1 < (x147001_1.length : Int)
       · rw [if_pos c15] at H; have c15b0 : decide (x4_1 < (x147001_1.length : Int)) = true := decide_eq_true c15; clear c15
         by_cases c16 : x147001_1.length < 17592186044416
         · rw [if_pos c16] at H; have LMc16 := Aside0.mk c16; clear c16; obtain ⟨y149, hy149⟩ : ∃ y_ : List Int, y_ = (x147001_1 ++ [wrap64 ((rd x147001_1 x4_1) + (rd l0_2 x4_1))]) := ⟨_, rfl⟩; replace H : (kimberliteref03_Out.l0 k1 (wrap64 (x4_1 + 1)) a0_0 a0_1 l0_2 a0_0 y149) = some (r1, r2) := by first | (rw [hy149]; with_reducible exact H) | (have H2_ := (Option.bind_some _ _).symm.trans H; rw [hy149]; with_reducible exact H2_) | (have H2_ := (Option.bind_some _ _).symm.trans H; with_reducible exact H2_) | with_reducible exact H | (rw [hy149]; exact H) | exact H
           have Ny149 := Aside0.mk hy149; clear hy149; have H' := Aside0.mk H; clear H; have hnb17 := NB141_142.out; have hnc17 := NB142_141.out; have hnb18 := NB141_146.out; have hnc18 := NB146_141.out; obtain ⟨hcz19_0, hcz19_1, hcz19_2, hfz19_0, hfz19_1, hfz19_2⟩ := cz3 BK141; try go_wp2
           replace HO_147001 := Aside0.mk (Kd.R_drew HO_147001.out); replace BK141 := Aside0.mk (blk_drew BK141.out); replace BK142 := Aside0.mk (blk_drew BK142.out); replace BK146 := Aside0.mk (blk_drew BK146.out); replace HB := Aside0.mk (below_drew1 HB.out); obtain ⟨Ao21, co21, eo21⟩ := Kd.R_slice HO_147001.out; (first | subst eo21 | (injection eo21 with f1_ f2_ f3_; have f4_ := f1_.symm; have f5_ := f3_.symm; clear f1_ f2_ f3_; subst f4_; subst f5_)); have p147 : 0 ≤ (x4_1 : Int) := of_decide_eq_true (by first | (with_reducible assumption) | assumption); have q147 : x4_1 < (x147001_1.length : Int) := of_decide_eq_true (by first | (with_reducible assumption) | assumption); obtain ⟨ad147, e147, hx147_0⟩ := Kd.at_int (Kd.R_reads' HO_147001.out).2.2 x4_1 p147 q147
           cases e147
           replace p147 := eq_true p147; replace q147 := eq_true q147; have p148 : 0 ≤ (x4_1 : Int) := of_decide_eq_true (by first | (with_reducible assumption) | assumption); have q148 : x4_1 < (l0_2.length : Int) := of_decide_eq_true (by first | (with_reducible assumption) | assumption); obtain ⟨ad148, e148, hx148_0⟩ := Kd.at_int HR0_2.out x4_1 p148 q148; have hw148_0 := hx148_0
           cases e148
           replace hx148_0 := (HB.out.cell (World.block_lt_of_cell? w _ hx148_0)).trans hx148_0; replace p148 := eq_true p148; replace q148 := eq_true q148; refine start_ (n := 17) (S := fun w' => w'.cell? ⟨gb146, 0, none⟩ = some (.int .i64 a0_0) ∧ w'.cell? ⟨gb146, 1, none⟩ = some (.slice (some ad147) x147001_1.length co21) ∧ w'.cell? ⟨gb141, 0, none⟩ = some (.int .i64 a0_0) ∧ w'.cell? ⟨gb141, 1, none⟩ = some (.int .i64 a0_1) ∧ w'.cell? ⟨gb141, 2, none⟩ = some (.slice (some ad148) l0_2.length c0_2) ∧ w'.cell? (ad147.add (x4_1).toNat) = some (.int .i64 (rd x147001_1 x4_1)) ∧ w'.cell? (ad148.add (x4_1).toNat) = some (.int .i64 (rd l0_2 x4_1))) (ds := [14, 16]) #[false, false, false, false, false, false, false, false, false, false, false, false, false, false, false, false, false] (by kernel_rfl) rfl rfl ⟨(blk_cell BK146.out 0).trans rfl, (blk_cell BK146.out 1).trans rfl, (blk_cell BK141.out 0).trans rfl, (blk_cell BK141.out 1).trans rfl, (blk_cell BK141.out 2).trans rfl, hx147_0, ((HB.out.cell (World.block_lt_of_cell? w _ hw148_0)).trans hw148_0)⟩ (fun hHeld => ?_); refine with_tabW kimberliteref03_Out.tab5 kimberliteref03_Out.bits5 (fun HT_ HW_ => ?_); generalize wr.drew = w20 at HO_147001 BK141 BK142 BK146 HB hx147_0 hx148_0 hHeld ⊢; refine pure_ (i := 0) (N := some 18) (v := ?_) (a' := ?_) #[true, false, false, false, false, false, false, false, false, false, false, false, false, false, false, false, false] rfl rfl (any_of HT_.out (by kernel_rfl)) (fun _ _ _ h => h) (Or.inl ⟨by rfl, ?_⟩) ?_ ?_; rotate_left
           · intro w'; go_simp
             with_reducible rfl
           rotate_left
           · simp only [Act.put, zs1, zs2, zs3, i64_w, i32_w]; rfl
           refine pure_ (i := 2) (N := some 20) (v := ?_) (a' := ?_) #[true, false, true, false, false, false, false, false, false, false, false, false, false, false, false, false, false] rfl rfl (any_of HT_.out (by kernel_rfl)) (fun _ _ _ h => h) (Or.inl ⟨by rfl, ?_⟩) ?_ ?_; rotate_left
           · intro w'; go_simp
             with_reducible rfl
           rotate_left
           · simp only [Act.put, zs1, zs2, zs3, i64_w, i32_w]; rfl
           refine pure_ (i := 4) (N := some 22) (v := ?_) (a' := ?_) #[true, false, true, false, true, false, false, false, false, false, false, false, false, false, false, false, false] rfl rfl (any_of HT_.out (by kernel_rfl)) (fun _ _ _ h => h) (Or.inl ⟨by rfl, ?_⟩) ?_ ?_; rotate_left
           · intro w'; go_simp
             with_reducible rfl
           rotate_left
           · simp only [Act.put, zs1, zs2, zs3, i64_w, i32_w]; rfl
           refine pure_ (i := 7) (N := some 25) (v := ?_) (a' := ?_) #[true, false, true, false, true, false, false, true, false, false, false, false, false, false, false, false, false] rfl rfl (any_of HT_.out (by kernel_rfl)) (fun _ _ _ h => h) (Or.inl ⟨by rfl, ?_⟩) ?_ ?_; rotate_left
           · intro w'; go_simp
             with_reducible rfl
           rotate_left
           · simp only [Act.put, zs1, zs2, zs3, i64_w, i32_w]; rfl
           refine pure_ (i := 9) (N := some 27) (v := ?_) (a' := ?_) #[true, false, true, false, true, false, false, true, false, true, false, false, false, false, false, false, false] rfl rfl (any_of HT_.out (by kernel_rfl)) (fun _ _ _ h => h) (Or.inl ⟨by rfl, ?_⟩) ?_ ?_; rotate_left
           · intro w'; go_simp
             with_reducible rfl
           rotate_left
           · simp only [Act.put, zs1, zs2, zs3, i64_w, i32_w]; rfl
           refine take_ (i := 1) (N := some 19) (v := ?_) (a' := ?_) #[true, true, true, false, true, false, false, true, false, true, false, false, false, false, false, false, false] rfl rfl (take_ofW HT_.out HW_.out (by kernel_rfl)) (fun _ _ _ h => h) (Or.inl ⟨by rfl, ?_⟩) hHeld ?_ ?_; rotate_left
           · rintro w' ⟨s0, zs1, zs2, zs3, s4, s5, s6⟩; go_simp
             with_reducible rfl
           rotate_left
           · simp only [Act.put, zs1, zs2, zs3, i64_w, i32_w]; rfl
           refine take_ (i := 3) (N := some 21) (v := ?_) (a' := ?_) #[true, true, true, true, true, false, false, true, false, true, false, false, false, false, false, false, false] rfl rfl (take_ofW HT_.out HW_.out (by kernel_rfl)) (fun _ _ _ h => h) (Or.inl ⟨by rfl, ?_⟩) hHeld ?_ ?_; rotate_left
           · rintro w' ⟨s0, zs1, zs2, zs3, s4, s5, s6⟩; go_simp
             with_reducible rfl
           rotate_left
           · simp only [Act.put, zs1, zs2, zs3, i64_w, i32_w]; rfl
           refine pure_ (i := 5) (N := some 23) (v := ?_) (a' := ?_) #[true, true, true, true, true, true, false, true, false, true, false, false, false, false, false, false, false] rfl rfl (any_of HT_.out (by kernel_rfl)) (fun _ _ _ h => h) (Or.inl ⟨by rfl, ?_⟩) ?_ ?_; rotate_left
           · intro w'; go_simp
             with_reducible rfl
           rotate_left
           · simp only [Act.put, zs1, zs2, zs3, i64_w, i32_w]; rfl
           refine take_ (i := 6) (N := some 24) (v := ?_) (a' := ?_) #[true, true, true, true, true, true, true, true, false, true, false, false, false, false, false, false, false] rfl rfl (take_ofW HT_.out HW_.out (by kernel_rfl)) (fun _ _ _ h => h) (Or.inl ⟨by rfl, ?_⟩) hHeld ?_ ?_; rotate_left
           · rintro w' ⟨s0, zs1, zs2, zs3, s4, s5, s6⟩; go_simp
             with_reducible rfl
           rotate_left
           · simp only [Act.put, zs1, zs2, zs3, i64_w, i32_w]; rfl
           refine take_ (i := 8) (N := some 26) (v := ?_) (a' := ?_) #[true, true, true, true, true, true, true, true, true, true, false, false, false, false, false, false, false] rfl rfl (take_ofW HT_.out HW_.out (by kernel_rfl)) (fun _ _ _ h => h) (Or.inl ⟨by rfl, ?_⟩) hHeld ?_ ?_; rotate_left
           · rintro w' ⟨s0, zs1, zs2, zs3, s4, s5, s6⟩; go_simp
             with_reducible rfl
           rotate_left
           · simp only [Act.put, zs1, zs2, zs3, i64_w, i32_w]; rfl
           refine pure_ (i := 10) (N := some 28) (v := ?_) (a' := ?_) #[true, true, true, true, true, true, true, true, true, true, true, false, false, false, false, false, false] rfl rfl (any_of HT_.out (by kernel_rfl)) (fun _ _ _ h => h) (Or.inl ⟨by rfl, ?_⟩) ?_ ?_; rotate_left
           · intro w'; go_simp
             with_reducible rfl
           rotate_left
           · simp only [Act.put, zs1, zs2, zs3, i64_w, i32_w]; rfl
           refine take_ (i := 11) (N := some 29) (v := ?_) (a' := ?_) #[true, true, true, true, true, true, true, true, true, true, true, true, false, false, false, false, false] rfl rfl (take_ofW HT_.out HW_.out (by kernel_rfl)) (fun _ _ _ h => h) (Or.inl ⟨by rfl, ?_⟩) hHeld ?_ ?_; rotate_left
           · rintro w' ⟨s0, zs1, zs2, zs3, s4, s5, s6⟩; go_simp
             with_reducible rfl
           rotate_left
           · simp only [Act.put, zs1, zs2, zs3, i64_w, i32_w]; rfl
           refine pure_ (i := 12) (N := some 30) (v := ?_) (a' := ?_) #[true, true, true, true, true, true, true, true, true, true, true, true, true, false, false, false, false] rfl rfl (any_of HT_.out (by kernel_rfl)) (fun _ _ _ h => h) (Or.inl ⟨by rfl, ?_⟩) ?_ ?_; rotate_left
           · intro w'; go_simp
             with_reducible rfl
           rotate_left
           · simp only [Act.put, zs1, zs2, zs3, i64_w, i32_w]; rfl
           refine one_ (i := 13) (N := some 31) #[true, true, true, true, true, true, true, true, true, true, true, true, true, true, false, false, false] rfl rfl (one_of HT_.out (by kernel_rfl)) (by decide) (fun K hK => ?_); refine value_ (w1 := ?_) (v := ?_) (by rfl) rfl ?_ ?_; rotate_left 2
           · go_simp
             constructor
             · rfl
             · rfl
           refine hK.out _ _ ⟨(blk_cell (blk_alloc BK146.out _) 0).trans rfl, (blk_cell (blk_alloc BK146.out _) 1).trans rfl, (blk_cell (blk_alloc BK141.out _) 0).trans rfl, (blk_cell (blk_alloc BK141.out _) 1).trans rfl, (blk_cell (blk_alloc BK141.out _) 2).trans rfl, (World.cell?_alloc_lt _ _ _ (World.block_lt_of_cell? _ _ (hHeld.2.2.2.2.2.1))).trans (hHeld.2.2.2.2.2.1), (World.cell?_alloc_lt _ _ _ (World.block_lt_of_cell? _ _ (((HB.out.cell (World.block_lt_of_cell? w _ hw148_0)).trans hw148_0)))).trans (((HB.out.cell (World.block_lt_of_cell? w _ hw148_0)).trans hw148_0))⟩ (fun hHeld => ?_); clear hK K; refine norm_ (a' := ?_) ?_ ?_; rotate_left
           · show Act.put _ (some 31) _ = _; simp only [Act.put, zs1, zs2, zs3, i64_w, i32_w]; rfl
           refine last_ (i := 14) (N := some 32) #[true, true, true, true, true, true, true, true, true, true, true, true, true, true, true, false, false] rfl rfl (one_of HT_.out (by kernel_rfl)) (by decide) (fun K hK => ?_); refine Kd.R_append_step (Kd.int .i64) (w0 := w) w.heap.size (by rfl) (.tmp 19) (.tmp 31) 22 3 (.int .i64 0) 8 rfl Try.underlying22 info3 rfl (by decide) (by omega) (.slice (some ad147) x147001_1.length co21) x147001_1 (wrap64 ((rd x147001_1 x4_1) + (rd l0_2 x4_1))) [.int .i64 (wrap64 ((rd x147001_1 x4_1) + (rd l0_2 x4_1)))] (fun _ => True) (fun _ => False) rfl rfl ?aP (fun _ hk => hk.elim) ?aF ?aO ?aB ?aS ?aL ?_; (case aP => exact rfl); (case aB => exact (nC HB)); (case aF => exact (fun _ _ => trivial)); (case aO => exact (nR HO_147001)); (case aS => exact (below_size (nC HB))); (case aL => have := LMc16.out; omega); intro v150 w22 ho hb hg hat; rw [← Ny149.out] at ho; replace BK141 := Aside0.mk (blk_grown (g := gb141) (o := .cells #[.int .i64 a0_0, .int .i64 a0_1, .slice (some ad148) l0_2.length c0_2] 24 (0, 0)) (nK BK141) hg (Kd.R_ne HO_147001.out BK141.out (by decide))); replace BK142 := Aside0.mk (blk_grown (g := gb142) (o := .cells #[.int .i64 0, .slice none 0 0] 78 (0, 0)) (nK BK142) hg (Kd.R_ne HO_147001.out BK142.out (by decide))); replace BK146 := Aside0.mk (blk_grown (g := gb146) (o := .cells #[.int .i64 a0_0, .slice (some ad147) x147001_1.length co21] 78 (0, 0)) (nK BK146) hg (Kd.R_ne HO_147001.out BK146.out (by decide))); replace HB := Aside0.mk (hb); have HO151 := Aside0.mk (ho); clear HO_147001; clear ho hb hg hat; obtain ⟨Ao23, co23, eo23⟩ := Kd.R_slice HO151.out; (first | subst eo23 | (injection eo23 with f1_ f2_ f3_; have f4_ := f1_.symm; have f5_ := f3_.symm; clear f1_ f2_ f3_; subst f4_; subst f5_)); refine hK.out _ _ ?_; clear hK K; refine norm_ (a' := ?_) ?_ ?_; rotate_left
           · show Act.put _ (some 32) _ = _; simp only [Act.put, zs1, zs2, zs3, i64_w, i32_w]; rfl
           refine pure_ (i := 15) (N := some 33) (v := ?_) (a' := ?_) #[true, true, true, true, true, true, true, true, true, true, true, true, true, true, true, true, false] rfl rfl (any_of HT_.out (by kernel_rfl)) (fun _ _ _ h => h) (Or.inl ⟨by rfl, ?_⟩) ?_ ?_; rotate_left
           · intro w'; go_simp
             with_reducible rfl
           rotate_left
           · simp only [Act.put, zs1, zs2, zs3, i64_w, i32_w]; rfl
           refine last_ (i := 16) (N := none) #[true, true, true, true, true, true, true, true, true, true, true, true, true, true, true, true, true] rfl rfl (one_of HT_.out (by kernel_rfl)) (by decide) (fun K hK => ?_); have hs24 : w22.cell? ⟨gb146, 1, none⟩ = some (.slice (some ad147) x147001_1.length co21) := (blk_cell BK146.out 1).trans rfl; have hfs24 := blk_frozen BK146.out 1; have hns24_0 := NB141_146.out; have hns24_1 := NB142_146.out; have hms24_0 := NB146_141.out; have hms24_1 := NB146_142.out; refine skip_ (w1 := ?_) (by rfl) rfl ?_ ?_; rotate_left
           · go_simp
             rfl
           refine hK.out _ _ ?_; clear hK K; refine done_ (done_of HT_.out (by kernel_rfl)) ?_; try go_wp2
           go_roundg k1
           case measure => have := HK1.out; omega
           case rel => exact ⟨(wrap64 (x4_1 + 1)), (y149), (.slice Ao23 y149.length co23), (by first | rfl | (simp; done) | (simp [*]; done)), H', ⟨by have := HK1.out; omega⟩, ⟨by (with_reducible repeat (first | apply Kd.R_alloc | apply Kd.R_drewN | apply Kd.R_drew)); exact Kd.R_mono (Kd.R_far (p := ⟨gb146, 1, none⟩) (Kd.R_types HO151.out BK146.out (by decide)) (fun _ hk => hk.2) (.slice Ao23 y149.length co23)) (fun _ hk => trivial)⟩, ⟨by (with_reducible repeat (first | refine blk_drewN ?_ _ | refine blk_drew ?_ | refine blk_alloc ?_ _)); refine blk_far ?_ NB141_146.out _; (with_reducible repeat (first | refine blk_drewN ?_ _ | refine blk_drew ?_ | refine blk_alloc ?_ _)); exact BK141.out⟩, ⟨by (with_reducible repeat (first | refine blk_drewN ?_ _ | refine blk_drew ?_ | refine blk_alloc ?_ _)); refine blk_far ?_ NB142_146.out _; (with_reducible repeat (first | refine blk_drewN ?_ _ | refine blk_drew ?_ | refine blk_alloc ?_ _)); exact BK142.out⟩, ⟨by (with_reducible repeat (first | refine blk_drewN ?_ _ | refine blk_drew ?_ | refine blk_alloc ?_ _)); refine blk_put (cs := #[.int .i64 a0_0, .slice (some ad147) x147001_1.length co21]) ?_ 1 _ rfl; (with_reducible repeat (first | refine blk_drewN ?_ _ | refine blk_drew ?_ | refine blk_alloc ?_ _)); exact BK146.out⟩, ⟨nC HB⟩⟩
         · rw [if_neg c16] at H; exact absurd H (by simp)
       · rw [if_neg c15] at H; exact absurd H (by simp)
     · rw [if_neg c14] at H; exact absurd H (by simp)
   · rw [if_neg c13] at H; have c13b0 : decide (x4_1 < (l0_2.length : Int)) = false := decide_eq_false c13; clear c13; simp only [Option.some.injEq, Prod.mk.injEq] at H; obtain ⟨rfl, rfl⟩ := H; have hnb25 := NB141_142.out; have hnc25 := NB142_141.out; have hnb26 := NB141_146.out; have hnc26 := NB146_141.out; obtain ⟨hcz27_0, hcz27_1, hcz27_2, hfz27_0, hfz27_1, hfz27_2⟩ := cz3 BK141; have hnb28 := NB146_142.out; have hnc28 := NB142_146.out; obtain ⟨hcz29_0, hcz29_1, hfz29_0, hfz29_1⟩ := cz2 BK146; obtain ⟨hcz30_0, hcz30_1, hfz30_0, hfz30_1⟩ := cz2 BK142; obtain ⟨Ao31, co31, eo31⟩ := Kd.R_slice HO_147001.out; subst eo31; go_wp2
     refine bodyPost_ret (results_cell_row rfl _ _ gb142 78 #[.int .i64 a0_0, .slice Ao31 x147001_1.length co31] (0, 0) _ rfl (by (with_reducible repeat (first | refine blk_drewN ?_ _ | refine blk_drew ?_ | refine blk_alloc ?_ _)); refine blk_put (cs := #[.int .i64 a0_0, .slice none 0 0]) ?_ 1 _ rfl; (with_reducible repeat (first | refine blk_drewN ?_ _ | refine blk_drew ?_ | refine blk_alloc ?_ _)); refine blk_put (cs := #[.int .i64 0, .slice none 0 0]) ?_ 0 _ rfl; (with_reducible repeat (first | refine blk_drewN ?_ _ | refine blk_drew ?_ | refine blk_alloc ?_ _)); exact BK142.out) Try.underlying78 rfl (by kernel_rfl)) rfl ?_; exact ⟨_, by first | rfl | (simp [errW_none, errW_some] <;> rfl) | (simp [*, errW_none, errW_some] <;> rfl), by (with_reducible repeat (first | apply Kd.R_alloc | apply Kd.R_drewN | apply Kd.R_drew)); exact Kd.R_mono (Kd.R_far (p := ⟨gb142, 1, none⟩) (Kd.R_far (p := ⟨gb142, 0, none⟩) (Kd.R_types HO_147001.out BK142.out (by decide)) (fun _ hk => hk.2) (.int .i64 a0_0)) (fun _ hk => hk.2) (.slice Ao31 x147001_1.length co31)) (fun _ hk => trivial), nC HB⟩
end Go.Proofs.Ytingjpcgehgiiaa.Pr
end
section
namespace Go.Proofs.Ytingjpcgehgiiaa.Pr
open Go.RowKit Go.Proofs.YtingjpcgehgiiaaW.PrintWords Go.Proofs.YtingjpcgehgiiaaW.PrintLast Go.Proofs.YtingjpcgehgiiaaW.PrintMore
attribute [local go_sem] max2_int min2_int max_two min_two max_three min_three max_four min_four   -- for this text's walks alone
set_option linter.unusedVariables false
set_option linter.unusedSimpArgs false
def curve_made.f (a0_0 : Int) (a0_1 : Int) (l0_2 : List Int) : Option (Int × Int × List Int × Int) := (curve_Valid.f a0_0 a0_1 l0_2).bind fun t481 => (if t481 = true then (some (a0_0, a0_1, l0_2, 0)) else (some (0, 0, ([] : List Int), 4)))
set_option maxHeartbeats 8000000 in
set_option maxRecDepth 100000 in
theorem curve_made.calls (a0_0 : Int) (a0_1 : Int) (P0_2_ : Nat → Prop) (u9000_ : Value) (l0_2 : List Int) (r1 : Int) (r2 : Int) (r3 : List Int) (r4 : Int) (w0 w : World) (hB : Below w0.heap.size w0 w) (ho0_2 : Kd.R (Kd.int .i64) 3 w w0.heap.size P0_2_ u9000_ l0_2) (h : curve_made.f a0_0 a0_1 l0_2 = some (r1, r2, r3, r4)) :
 Calls Try.prog 51 #[.agg #[.int .i64 a0_0, .int .i64 a0_1, u9000_]] w fun e w' => ∃ v2_ : Value, e = .returned (.tuple #[.agg #[.int .i64 r1, .int .i64 r2, v2_], .int .i64 r4]) ∧ Kd.R (Kd.int .i64) 3 w' w0.heap.size (fun k_ => (P0_2_ k_ ∨ w.heap.size ≤ k_)) v2_ r3 ∧ Below w0.heap.size w0 w' ∧ Kept w w' (fun k_ => P0_2_ k_) := by
 have hu24 := Try.underlying24; have HO0_2 := Aside0.mk (show Kd.R (Kd.int .i64) 3 w w0.heap.size (fun k_ => (P0_2_ k_ ∨ w.heap.size ≤ k_)) u9000_ l0_2 from Kd.R_mono ho0_2 (fun k_ hk => (.inl hk))); have HK := Aside0.mk (Kept.refl w (fun k_ => P0_2_ k_)); have HW0 := Aside0.mk hB.size; have HB := Aside0.mk hB; clear hB; have H : ((curve_Valid.f a0_0 a0_1 l0_2).bind fun t481 => (if t481 = true then (some (a0_0, a0_1, l0_2, 0)) else (some (0, 0, ([] : List Int), 4)))) = some (r1, r2, r3, r4) := h; clear h; replace H := Option.bind_eq_some_iff.mp H; obtain ⟨t481, A20, H⟩ := H; replace H : (if t481 = true then (some (a0_0, a0_1, l0_2, 0)) else (some (0, 0, ([] : List Int), 4))) = some (r1, r2, r3, r4) := H; have A2 := Aside0.mk A20; clear A20
 by_cases c3 : t481 = true
 · subst c3; replace H : (some (a0_0, a0_1, l0_2, 0)) = some (r1, r2, r3, r4) := by rw [if_pos rfl] at H; exact H
   simp only [Option.some.injEq, Prod.mk.injEq] at H; obtain ⟨rfl, rfl, rfl, rfl⟩ := H; obtain ⟨Ao4, co4, eo4⟩ := Kd.R_slice HO0_2.out; subst eo4; go_enter Try.func51, Try.ntmps51
   go_wp2_with (first | ((with_reducible refine gate_dst (N := 1) rfl ?_); refine box_event ?hg (N := 1) ?hd (cs := #[.int .i64 a0_0, .int .i64 a0_1, .slice Ao4 l0_2.length co4]) (t := 24) ?hr ?_; (case hd => rfl); (case hg => rfl); (case hr => first | (go_simp; done) | (go_simp; rfl)); intro gb479 hg w5 hbox hb; replace HO0_2 := Aside0.mk (Kd.R_below (nR HO0_2) hb); have BK479 := Aside0.mk (hbox); have GW479 := Aside0.mk ((by rw [hg]; exact (by first | exact HK.out.1 | exact (show Kept w _ (fun k_ => P0_2_ k_) from by repeat (first | (with_reducible first | exact HK.out | apply Kept.alloc | apply Kept.drewN | apply Kept.drew) | exact HK.out)).1) : w.heap.size ≤ gb479)); replace HK := Aside0.mk (Kept.below (S := (fun k_ => P0_2_ k_)) (by repeat (first | (with_reducible first | exact HK.out | apply Kept.alloc | apply Kept.drewN | apply Kept.drew) | exact HK.out)) hb); have GE479 := Aside0.mk ((by rw [hg]; exact (below_size (nC HB)) : w0.heap.size ≤ gb479)); replace HB := Aside0.mk (below_step (nC HB) hb); clear hb hbox hg) | ((with_reducible refine gate_dst (N := 2) rfl ?_); refine box_event ?hg (N := 2) ?hd (cs := #[.int .i64 0, .int .i64 0, .slice none 0 0]) (t := 24) ?hr ?_; (case hd => rfl); (case hg => rfl); (case hr => first | (go_simp; done) | (go_simp; rfl)); intro gb480 hg w6 hbox hb; replace HO0_2 := Aside0.mk (Kd.R_below (nR HO0_2) hb); have BK480 := Aside0.mk (hbox); have GW480 := Aside0.mk ((by rw [hg]; exact (by first | exact HK.out.1 | exact (show Kept w _ (fun k_ => P0_2_ k_) from by repeat (first | (with_reducible first | exact HK.out | apply Kept.alloc | apply Kept.drewN | apply Kept.drew | refine Kept.setCell ?_ (.inr GW479.out) _) | exact HK.out)).1) : w.heap.size ≤ gb480)); replace HK := Aside0.mk (Kept.below (S := (fun k_ => P0_2_ k_)) (by repeat (first | (with_reducible first | exact HK.out | apply Kept.alloc | apply Kept.drewN | apply Kept.drew | refine Kept.setCell ?_ (.inr GW479.out) _) | exact HK.out)) hb); have GE480 := Aside0.mk ((by rw [hg]; exact (below_size (nC HB)) : w0.heap.size ≤ gb480)); replace HB := Aside0.mk (below_step (nC HB) hb); have NB479_480 := Aside0.mk ((by rw [hg]; exact Nat.ne_of_lt (blk_lt (nK BK479)) : gb479 ≠ gb480)); have NB480_479 := Aside0.mk ((by rw [hg]; exact Nat.ne_of_gt (blk_lt (nK BK479)) : gb480 ≠ gb479)); replace BK479 := Aside0.mk (nB BK479 hb); clear hb hbox hg; have hnb7 := NB479_480.out; have hnc7 := NB480_479.out; obtain ⟨hcz8_0, hcz8_1, hcz8_2, hfz8_0, hfz8_1, hfz8_2⟩ := cz3 BK479) | ((with_reducible refine gate_callee (f := 16) rfl ?_); refine gL (some 5) Try.func16 #[.agg #[.int .i64 a0_0, .int .i64 a0_1, .slice Ao4 l0_2.length co4]] ?_; (with_reducible refine (curve_Valid.calls a0_0 a0_1 _ _ l0_2 true _ ?side1 ?side2 A2.out).mono ?_); (case side1 => repeat (first | exact (Kd.R_reads' HO0_2.out).2.2 | (with_reducible refine Kd.C_alloc ?_ _) | (with_reducible refine Kd.C_drewN ?_ _) | (with_reducible refine Kd.C_drew ?_))); (case side2 => exact (Kd.R_reads' HO0_2.out).2.1); rintro e w9 ⟨rfl, hb⟩; refine ⟨_, rfl, ?_⟩; replace HO0_2 := Aside0.mk (Kd.R_below (nR HO0_2) hb); replace BK479 := Aside0.mk (nB BK479 hb); replace BK480 := Aside0.mk (nB BK480 hb); replace HK := Aside0.mk (Kept.below (S := (fun k_ => P0_2_ k_)) (by repeat (first | (with_reducible first | exact HK.out | apply Kept.alloc | apply Kept.drewN | apply Kept.drew | refine Kept.setCell ?_ (.inr GW479.out) _ | refine Kept.setCell ?_ (.inr GW480.out) _) | exact HK.out)) hb); replace HB := Aside0.mk (below_step (nC HB) hb); (try clear hb); (try clear hb2); (try clear hk); (try clear hi); obtain ⟨hcz10_0, hcz10_1, hcz10_2, hfz10_0, hfz10_1, hfz10_2⟩ := cz3 BK479; obtain ⟨hcz11_0, hcz11_1, hcz11_2, hfz11_0, hfz11_1, hfz11_2⟩ := cz3 BK480))
   refine bodyPost_ret (results_ct rfl _ _ gb480 24 #[.int .i64 a0_0, .int .i64 a0_1, .slice Ao4 l0_2.length co4] (0, 0) _ rfl (by (with_reducible repeat (first | refine blk_drewN ?_ _ | refine blk_drew ?_ | refine blk_alloc ?_ _)); refine blk_put (cs := #[.int .i64 a0_0, .int .i64 a0_1, .slice none 0 0]) ?_ 2 _ rfl; (with_reducible repeat (first | refine blk_drewN ?_ _ | refine blk_drew ?_ | refine blk_alloc ?_ _)); refine blk_put (cs := #[.int .i64 a0_0, .int .i64 0, .slice none 0 0]) ?_ 1 _ rfl; (with_reducible repeat (first | refine blk_drewN ?_ _ | refine blk_drew ?_ | refine blk_alloc ?_ _)); refine blk_put (cs := #[.int .i64 0, .int .i64 0, .slice none 0 0]) ?_ 0 _ rfl; (with_reducible repeat (first | refine blk_drewN ?_ _ | refine blk_drew ?_ | refine blk_alloc ?_ _)); exact BK480.out) Try.underlying24 rfl (by kernel_rfl)) rfl ?_; exact ⟨_, by first | rfl | (simp [errW_none, errW_some] <;> rfl) | (simp [*, errW_none, errW_some] <;> rfl), by (with_reducible repeat (first | apply Kd.R_alloc | apply Kd.R_drewN | apply Kd.R_drew)); exact Kd.R_mono (Kd.R_far (p := ⟨gb480, 2, none⟩) (Kd.R_far (p := ⟨gb480, 1, none⟩) (Kd.R_far (p := ⟨gb480, 0, none⟩) (Kd.R_types HO0_2.out BK480.out (by decide)) (fun _ hk => hk.2) (.int .i64 a0_0)) (fun _ hk => hk.2) (.int .i64 a0_1)) (fun _ hk => hk.2) (.slice Ao4 l0_2.length co4)) (fun _ hk => hk.1), by repeat (first | (with_reducible first | exact HB.out | apply below_alloc | apply pw_below_drewN | apply below_drew1 | refine below_set ?_ GE479.out | refine below_set ?_ GE480.out) | exact HB.out), by repeat (first | (with_reducible first | exact HK.out | apply Kept.alloc | apply Kept.drewN | apply Kept.drew | refine Kept.setCell ?_ (.inr GW479.out) _ | refine Kept.setCell ?_ (.inr GW480.out) _) | exact HK.out)⟩
 · replace c3 := Bool.eq_false_iff.mpr c3; subst c3; replace H : (some (0, 0, ([] : List Int), 4)) = some (r1, r2, r3, r4) := by rw [if_neg (show ¬ (false = true) by decide)] at H; exact H
   simp only [Option.some.injEq, Prod.mk.injEq] at H; obtain ⟨rfl, rfl, rfl, rfl⟩ := H; obtain ⟨Ao12, co12, eo12⟩ := Kd.R_slice HO0_2.out; subst eo12; go_enter Try.func51, Try.ntmps51
   go_wp2_with (first | ((with_reducible refine gate_dst (N := 1) rfl ?_); refine box_event ?hg (N := 1) ?hd (cs := #[.int .i64 a0_0, .int .i64 a0_1, .slice Ao12 l0_2.length co12]) (t := 24) ?hr ?_; (case hd => rfl); (case hg => rfl); (case hr => first | (go_simp; done) | (go_simp; rfl)); intro gb479 hg w13 hbox hb; replace HO0_2 := Aside0.mk (Kd.R_below (nR HO0_2) hb); have BK479 := Aside0.mk (hbox); have GW479 := Aside0.mk ((by rw [hg]; exact (by first | exact HK.out.1 | exact (show Kept w _ (fun k_ => P0_2_ k_) from by repeat (first | (with_reducible first | exact HK.out | apply Kept.alloc | apply Kept.drewN | apply Kept.drew) | exact HK.out)).1) : w.heap.size ≤ gb479)); replace HK := Aside0.mk (Kept.below (S := (fun k_ => P0_2_ k_)) (by repeat (first | (with_reducible first | exact HK.out | apply Kept.alloc | apply Kept.drewN | apply Kept.drew) | exact HK.out)) hb); have GE479 := Aside0.mk ((by rw [hg]; exact (below_size (nC HB)) : w0.heap.size ≤ gb479)); replace HB := Aside0.mk (below_step (nC HB) hb); clear hb hbox hg) | ((with_reducible refine gate_dst (N := 2) rfl ?_); refine box_event ?hg (N := 2) ?hd (cs := #[.int .i64 0, .int .i64 0, .slice none 0 0]) (t := 24) ?hr ?_; (case hd => rfl); (case hg => rfl); (case hr => first | (go_simp; done) | (go_simp; rfl)); intro gb480 hg w14 hbox hb; replace HO0_2 := Aside0.mk (Kd.R_below (nR HO0_2) hb); have BK480 := Aside0.mk (hbox); have GW480 := Aside0.mk ((by rw [hg]; exact (by first | exact HK.out.1 | exact (show Kept w _ (fun k_ => P0_2_ k_) from by repeat (first | (with_reducible first | exact HK.out | apply Kept.alloc | apply Kept.drewN | apply Kept.drew | refine Kept.setCell ?_ (.inr GW479.out) _) | exact HK.out)).1) : w.heap.size ≤ gb480)); replace HK := Aside0.mk (Kept.below (S := (fun k_ => P0_2_ k_)) (by repeat (first | (with_reducible first | exact HK.out | apply Kept.alloc | apply Kept.drewN | apply Kept.drew | refine Kept.setCell ?_ (.inr GW479.out) _) | exact HK.out)) hb); have GE480 := Aside0.mk ((by rw [hg]; exact (below_size (nC HB)) : w0.heap.size ≤ gb480)); replace HB := Aside0.mk (below_step (nC HB) hb); have NB479_480 := Aside0.mk ((by rw [hg]; exact Nat.ne_of_lt (blk_lt (nK BK479)) : gb479 ≠ gb480)); have NB480_479 := Aside0.mk ((by rw [hg]; exact Nat.ne_of_gt (blk_lt (nK BK479)) : gb480 ≠ gb479)); replace BK479 := Aside0.mk (nB BK479 hb); clear hb hbox hg; have hnb15 := NB479_480.out; have hnc15 := NB480_479.out; obtain ⟨hcz16_0, hcz16_1, hcz16_2, hfz16_0, hfz16_1, hfz16_2⟩ := cz3 BK479) | ((with_reducible refine gate_callee (f := 16) rfl ?_); refine gL (some 5) Try.func16 #[.agg #[.int .i64 a0_0, .int .i64 a0_1, .slice Ao12 l0_2.length co12]] ?_; (with_reducible refine (curve_Valid.calls a0_0 a0_1 _ _ l0_2 false _ ?side1 ?side2 A2.out).mono ?_); (case side1 => repeat (first | exact (Kd.R_reads' HO0_2.out).2.2 | (with_reducible refine Kd.C_alloc ?_ _) | (with_reducible refine Kd.C_drewN ?_ _) | (with_reducible refine Kd.C_drew ?_))); (case side2 => exact (Kd.R_reads' HO0_2.out).2.1); rintro e w17 ⟨rfl, hb⟩; refine ⟨_, rfl, ?_⟩; replace HO0_2 := Aside0.mk (Kd.R_below (nR HO0_2) hb); replace BK479 := Aside0.mk (nB BK479 hb); replace BK480 := Aside0.mk (nB BK480 hb); replace HK := Aside0.mk (Kept.below (S := (fun k_ => P0_2_ k_)) (by repeat (first | (with_reducible first | exact HK.out | apply Kept.alloc | apply Kept.drewN | apply Kept.drew | refine Kept.setCell ?_ (.inr GW479.out) _ | refine Kept.setCell ?_ (.inr GW480.out) _) | exact HK.out)) hb); replace HB := Aside0.mk (below_step (nC HB) hb); (try clear hb); (try clear hb2); (try clear hk); (try clear hi); obtain ⟨hcz18_0, hcz18_1, hcz18_2, hfz18_0, hfz18_1, hfz18_2⟩ := cz3 BK480))
   refine bodyPost_ret (results_ct rfl _ _ gb480 24 #[.int .i64 0, .int .i64 0, .slice none 0 0] (0, 0) _ rfl (by (with_reducible repeat (first | refine blk_drewN ?_ _ | refine blk_drew ?_ | refine blk_alloc ?_ _)); refine blk_put (cs := #[.int .i64 0, .int .i64 0, .slice none 0 0]) ?_ 2 _ rfl; (with_reducible repeat (first | refine blk_drewN ?_ _ | refine blk_drew ?_ | refine blk_alloc ?_ _)); refine blk_put (cs := #[.int .i64 0, .int .i64 0, .slice none 0 0]) ?_ 1 _ rfl; (with_reducible repeat (first | refine blk_drewN ?_ _ | refine blk_drew ?_ | refine blk_alloc ?_ _)); refine blk_put (cs := #[.int .i64 0, .int .i64 0, .slice none 0 0]) ?_ 0 _ rfl; (with_reducible repeat (first | refine blk_drewN ?_ _ | refine blk_drew ?_ | refine blk_alloc ?_ _)); exact BK480.out) Try.underlying24 rfl (by kernel_rfl)) rfl ?_; exact ⟨_, by first | rfl | (simp [errW_none, errW_some] <;> rfl) | (simp [*, errW_none, errW_some] <;> rfl), by first | exact Kd.R_nil _ _ _ _ _ | exact Kd.N_nil _ _ _ _ _ | exact Kd.V_nil _ _ _ _ _ | exact Kd.Q_nil _ _ _ _ _ | exact Kd.S_nil _ _ _ _ _, by repeat (first | (with_reducible first | exact HB.out | apply below_alloc | apply pw_below_drewN | apply below_drew1 | refine below_set ?_ GE479.out | refine below_set ?_ GE480.out) | exact HB.out), by repeat (first | (with_reducible first | exact HK.out | apply Kept.alloc | apply Kept.drewN | apply Kept.drew | refine Kept.setCell ?_ (.inr GW479.out) _ | refine Kept.setCell ?_ (.inr GW480.out) _) | exact HK.out)⟩
end Go.Proofs.Ytingjpcgehgiiaa.Pr
end
section
namespace Go.Proofs.Ytingjpcgehgiiaa.Pr
open Go.RowKit Go.Proofs.YtingjpcgehgiiaaW.PrintWords Go.Proofs.YtingjpcgehgiiaaW.PrintLast Go.Proofs.YtingjpcgehgiiaaW.PrintMore
set_option linter.unusedVariables false
set_option linter.unusedSimpArgs false
theorem mx_eq (a b : Int) : mx a b = max a b := by unfold mx; omega
theorem mn_eq (a b : Int) : mn a b = min a b := by unfold mn; omega
theorem valid_f (c : S24) : curve_Valid.f c.f0 c.f1 c.f2 = some (decide (Vc c)) := by
  unfold curve_Valid.f
  by_cases h : Vc c
  · rw [decide_eq_true h]
    exact congrArg some h
  · rw [decide_eq_false h]
    exact congrArg some (Bool.eq_false_iff.2 h)
theorem to_f {c : S24} (h : Vc c) : curve_to.f c.f0 c.f1 c.f2 = some (c.f0 + (c.f2.length : Int)) := by
  obtain ⟨h1, h2, h3, h4, h5, _, h7⟩ := vc_parts h
  unfold curve_to.f
  have e : wrap64 (c.f0 + (c.f2.length : Int)) = c.f0 + (c.f2.length : Int) := by unfold wrap64; omega
  rw [e]
/-- The values, written out. -/
def outL (c : S24) (n : Nat) : List Int := (List.range n).map fun i : Nat => valC c (c.f0 + (i : Int))
theorem outL_len (c : S24) (n : Nat) : (outL c n).length = n := by unfold outL; rw [List.length_map, List.length_range]
theorem outL_rd (c : S24) (n i : Nat) (h : i < n) : rd (outL c n) (i : Int) = valC c (c.f0 + (i : Int)) := by
  rw [rd_nat _ _ (by rw [outL_len]; exact h)]
  unfold outL
  rw [List.getElem_map, List.getElem_range]
theorem outL_succ (c : S24) (n : Nat) : outL c (n + 1) = outL c n ++ [valC c (c.f0 + (n : Int))] := by
  unfold outL
  rw [List.range_succ, List.map_append]
  rfl
theorem tot_take_succ (l : List Int) (i : Nat) (h : i < l.length) : tot (l.take (i + 1)) = tot (l.take i) + rd l (i : Int) := by
  rw [List.take_add_one, List.getElem?_eq_getElem h, tot_append, rd_nat l i h]
  simp [tot]
theorem val_succ (c : S24) (i : Nat) (h : i < c.f2.length) : valC c (c.f0 + ((i + 1 : Nat) : Int)) = valC c (c.f0 + (i : Int)) + rd c.f2 (i : Int) := by
  unfold valC
  have e1 : (c.f0 + ((i + 1 : Nat) : Int) - c.f0).toNat = i + 1 := by omega
  have e2 : (c.f0 + (i : Int) - c.f0).toNat = i := by omega
  rw [e1, e2, tot_take_succ _ _ h]
  omega
theorem val_first (c : S24) : valC c c.f0 = c.f1 := by
  unfold valC
  have e : (c.f0 - c.f0).toNat = 0 := by omega
  rw [e]
  simp [tot]
theorem out_loop {c : S24} (h : Vc c) : ∀ n i : Nat, i + n = c.f2.length → Ev (fun k => kimberliteref03_Out.l0 k (i : Int) c.f0 c.f1 c.f2 c.f0 (outL c (i + 1))) (c.f0, outL c (c.f2.length + 1))
  | 0, i, hi => by
    have e : i = c.f2.length := by omega
    rw [← e]
    refine Ev.step (f := fun _ => some (c.f0, outL c (i + 1))) (fun k => ?_) (Ev.now _)
    simp only [kimberliteref03_Out.l0]
    rw [if_neg (by omega)]
  | n + 1, i, hi => by
    obtain ⟨h1, h2, h3, h4, h5, _, h7⟩ := vc_parts h
    have ih := out_loop h n (i + 1) (by omega)
    have ew : wrap64 ((i : Int) + 1) = ((i + 1 : Nat) : Int) := by unfold wrap64; omega
    have b := val_bound h (c.f0 + ((i + 1 : Nat) : Int))
    have hv := val_succ c i (by omega)
    have ev : wrap64 (rd (outL c (i + 1)) (i : Int) + rd c.f2 (i : Int)) = valC c (c.f0 + ((i + 1 : Nat) : Int)) := by
      rw [outL_rd c (i + 1) i (by omega), ← hv]
      unfold wrap64
      omega
    refine Ev.step (fun k => ?_) ih
    simp only [kimberliteref03_Out.l0]
    have hl := outL_len c (i + 1)
    rw [if_pos (by omega), if_pos (by omega), if_pos (by omega), if_pos (by omega), ew, ev, outL_succ c (i + 1)]
theorem out_ev {c : S24} (h : Vc c) : Ev (fun k => kimberliteref03_Out.f k c.f0 c.f1 c.f2) (c.f0, outL c (c.f2.length + 1)) := by
  have h1 := out_loop h c.f2.length 0 (by omega)
  have e : outL c (0 + 1) = [c.f1] := by
    unfold outL
    have : valC c (c.f0 + ((0 : Nat) : Int)) = c.f1 := by rw [show c.f0 + ((0 : Nat) : Int) = c.f0 by omega, val_first]
    simpa [List.range_succ] using this
  rw [e] at h1
  exact h1
theorem row_value {c : S24} (h : Vc c) {x : Int} (hx : inC c x) : kimberliteref03_Row_Value.f c.f0 (outL c (c.f2.length + 1)) x = some (valC c x) := by
  obtain ⟨h1, h2, h3, h4, h5, _, h7⟩ := vc_parts h
  obtain ⟨x1, x2⟩ := hx
  obtain ⟨k, hk⟩ := Int.eq_ofNat_of_zero_le (show 0 ≤ x - c.f0 by omega)
  have e : wrap64 (x - c.f0) = (k : Int) := by unfold wrap64; omega
  unfold kimberliteref03_Row_Value.f
  have hl := outL_len c (c.f2.length + 1)
  rw [e, if_pos (by omega), if_pos (by omega), outL_rd _ _ _ (by omega), ← hk]
  congr 2
  omega
theorem row_to {c : S24} (h : Vc c) : kimberliteref03_Row_To.f c.f0 (outL c (c.f2.length + 1)) = some (c.f0 + (c.f2.length : Int)) := by
  obtain ⟨h1, h2, h3, h4, h5, _, h7⟩ := vc_parts h
  unfold kimberliteref03_Row_To.f
  rw [outL_len]
  congr 1
  unfold wrap64
  omega
theorem in_bound {c : S24} (h : Vc c) {x : Int} (hx : inC c x) : -2097152 ≤ x ∧ x ≤ 2097152 := by
  obtain ⟨h1, h2, h3, h4, h5, _, h7⟩ := vc_parts h
  obtain ⟨x1, x2⟩ := hx
  omega
end Go.Proofs.Ytingjpcgehgiiaa.Pr
end
section
namespace Go.Proofs.Ytingjpcgehgiiaa.Pr
open Go.RowKit Go.Proofs.YtingjpcgehgiiaaW.PrintWords Go.Proofs.YtingjpcgehgiiaaW.PrintLast Go.Proofs.YtingjpcgehgiiaaW.PrintMore
set_option linter.unusedVariables false
set_option linter.unusedSimpArgs false
def clone_int.f (l0 : List Int) : Option (List Int) := if l0.length ≤ 8796093022208 then some l0 else none
set_option maxHeartbeats 4000000 in
set_option maxRecDepth 100000 in
theorem clone_int.calls (A0 : Option Addr) (c0 : Nat) (l0 : List Int) (r : List Int) (w : World) (hr0 : Kd.C (Kd.int .i64) w A0 l0.length l0) (hc0 : l0.length ≤ c0) (h : clone_int.f l0 = some r) :
    Calls Try.prog 78 #[.slice A0 l0.length c0] w fun e w' => ∃ v0_ : Value, e = .returned v0_ ∧ Kd.R (Kd.int .i64) 3 w' w.heap.size (fun _ => True) v0_ r ∧ Below w.heap.size w w' := by
  unfold clone_int.f at h
  split at h
  · rename_i hlen
    injection h with h
    subst h
    have qT : ∀ (w : World) (a : Option Addr) (n c n' c' : Nat), (binOp .eql 22 (.slice a n c) (.slice none n' c')).run Try.prog w = .ok (.bool a.isNone) w := fun w a n c n' c' => Lib.run_eql_slice_nil w _ _ a n c n' c' Try.underlying22
    rcases A0 with _ | ad
    · have h0 : l0 = [] := by
        rcases l0 with _ | ⟨x, xs⟩
        · rfl
        · obtain ⟨ad, h, _⟩ := hr0.2.2 (by simp)
          cases h
      subst h0
      go_enter Try.func78, Try.ntmps78
      go_wp2
      go_ret
      exact ⟨_, rfl, Kd.R_nil _ _ _ _ _, Below.refl _ _⟩
    · have HR0 := Aside0.mk hr0
      clear hr0
      have HB := Aside0.mk (Below.refl w.heap.size w)
      have hb8 := Aside0.mk hlen
      clear hlen
      go_enter Try.func78, Try.ntmps78
      go_wp2_with (first | ((with_reducible refine gate_dst (N := 5) rfl ?_); refine Kd.R_lit (Kd.int .i64) _ 3 ?hg (N := 5) ?hd (xs := ([] : List Int)) (inner := []) (ok := fun _ => True) (okp := fun _ => True) ?hr ?hp (fun _ hk => hk) trivial (Below.refl _ _) (Nat.le_refl _) (by simp) ?_; (case hd => rfl); (case hg => rfl); (case hr => first | (go_simp; done) | (go_simp; rfl)); (case hp => exact Reps.none _ _); intro v1 w1 ho1 hb1 hg1 hn1; clear hg1 hn1; have HO := Aside0.mk (Kd.R_lower ho1 (Nat.le_refl _)); have HB1 := Aside0.mk hb1; clear ho1 hb1; clear HB; obtain ⟨Ao7, co7, eo7⟩ := Kd.R_slice HO.out; subst eo7) | (at_builtin; refine Kd.R_append_rows (Kd.int .i64) (Rr := (Kd.int .i64).K w) (w0 := w) w.heap.size rfl (.tmp 5) (.tmp 6) 22 3 (.int .i64 0) 8 rfl Try.underlying22 info3 rfl (by decide) (by omega) _ ([] : List Int) l0 (some ad) l0.length c0 (fun _ => True) (fun _ => False) rfl rfl HO.out ?aR ?aK (fun _ hk => hk.elim) (fun _ _ => trivial) HB1.out HB1.out.size ?aL ?_; (case aR => exact (Kd.C_below HR0.out HB1.out)); (case aK => (intro x cs hx; exact hx)); (case aL => (have := hb8.out; simp; omega)); intro v2 w2 ho2 hb2 hg2 hn2; clear hg2 hn2; rw [List.nil_append] at ho2; have HO2 := Aside0.mk ho2; have HB2 := Aside0.mk hb2; clear ho2 hb2 HO HB1; obtain ⟨Ao8, co8, eo8⟩ := Kd.R_slice HO2.out; subst eo8))
      go_ret
      exact ⟨_, rfl, HO2.out, HB2.out⟩
  · cases h
end Go.Proofs.Ytingjpcgehgiiaa.Pr
end
section
namespace Go.Proofs.Ytingjpcgehgiiaa.Pr
open Go.RowKit Go.Proofs.YtingjpcgehgiiaaW.PrintWords Go.Proofs.YtingjpcgehgiiaaW.PrintLast Go.Proofs.YtingjpcgehgiiaaW.PrintMore
attribute [local go_sem] max2_int min2_int max_two min_two max_three min_three max_four min_four   -- for this text's walks alone
set_option linter.unusedVariables false
set_option linter.unusedSimpArgs false
def curve_part.f (a0_0 : Int) (a0_1 : Int) (l0_2 : List Int) (a1 : Int) (a2 : Int) : Option (Int × Int × List Int) := (curve_at.f a0_0 a0_1 l0_2 a1).bind fun t474 => (if 0 ≤ (wrap64 (a1 - a0_0)) then (if (wrap64 (a1 - a0_0)) ≤ (wrap64 (a2 - a0_0)) then (if (wrap64 (a2 - a0_0)) ≤ (l0_2.length : Int) then ((clone_int.f ((l0_2.take ((wrap64 (a2 - a0_0)) : Int).toNat).drop ((wrap64 (a1 - a0_0)) : Int).toNat)).bind fun t476 => (some (a1, t474, t476))) else (none)) else (none)) else (none))
def curve_part.T1 : Bool × List (List Nat × List Nat) := (true, [([], []), ([], []), ([], []), ([1, 2], [1, 2]), ([], []), ([4], [4]), ([], []), ([], []), ([7], [7]), ([6, 8], [6, 8]), ([], []), ([], []), ([11], [11]), ([10, 12], [10, 12]), ([5, 9, 13], [5, 9, 13]), ([14, 3], [14]), ([0, 3, 15], [0, 3, 15]), ([16, 15, 0, 1, 2, 3, 4, 5, 6, 7, 8, 9, 10, 11, 12, 13, 14, 15, 16], [16])])
def curve_part.B1 : List Nat := [0, 0, 0, 6, 0, 16, 0, 0, 128, 448, 0, 0, 2048, 7168, 16368, 32766, 65535, 131071]
theorem curve_part.tab1 : rtab .any (opsOf Try.f76 1) = curve_part.T1 := by kernel_rfl
theorem curve_part.bits1 : waitsOk curve_part.T1.2 curve_part.B1 = true := by kernel_rfl
set_option maxHeartbeats 8000000 in
set_option maxRecDepth 100000 in
theorem curve_part.calls (a0_0 : Int) (a0_1 : Int) (A0_2 : Option Addr) (c0_2 : Nat) (l0_2 : List Int) (a1 : Int) (a2 : Int) (r1 : Int) (r2 : Int) (r3 : List Int) (w : World) (hr0_2 : Kd.C (Kd.int .i64) w A0_2 l0_2.length l0_2) (hc0_2 : l0_2.length ≤ c0_2) (h : curve_part.f a0_0 a0_1 l0_2 a1 a2 = some (r1, r2, r3)) :
 Calls Try.prog 76 #[.agg #[.int .i64 a0_0, .int .i64 a0_1, .slice A0_2 l0_2.length c0_2], .int .i64 a1, .int .i64 a2] w fun e w' => ∃ v2_ : Value, e = .returned (.agg #[.int .i64 r1, .int .i64 r2, v2_]) ∧ Kd.R (Kd.int .i64) 3 w' w.heap.size (fun _ => True) v2_ r3 ∧ Below w.heap.size w w' := by
 have hu24 := Try.underlying24; have HR0_2 := Aside0.mk hr0_2; have HC0_2 := Aside0.mk hc0_2; clear hr0_2 hc0_2; have HB := Aside0.mk (Below.refl w.heap.size w); have H : ((curve_at.f a0_0 a0_1 l0_2 a1).bind fun t474 => (if 0 ≤ (wrap64 (a1 - a0_0)) then (if (wrap64 (a1 - a0_0)) ≤ (wrap64 (a2 - a0_0)) then (if (wrap64 (a2 - a0_0)) ≤ (l0_2.length : Int) then ((clone_int.f ((l0_2.take ((wrap64 (a2 - a0_0)) : Int).toNat).drop ((wrap64 (a1 - a0_0)) : Int).toNat)).bind fun t476 => (some (a1, t474, t476))) else (none)) else (none)) else (none))) = some (r1, r2, r3) := h; clear h; replace H := Option.bind_eq_some_iff.mp H; obtain ⟨t474, A40, H⟩ := H; replace H : (if 0 ≤ (wrap64 (a1 - a0_0)) then (if (wrap64 (a1 - a0_0)) ≤ (wrap64 (a2 - a0_0)) then (if (wrap64 (a2 - a0_0)) ≤ (l0_2.length : Int) then ((clone_int.f ((l0_2.take ((wrap64 (a2 - a0_0)) : Int).toNat).drop ((wrap64 (a1 - a0_0)) : Int).toNat)).bind fun t476 => (some (a1, t474, t476))) else (none)) else (none)) else (none)) = some (r1, r2, r3) := H; have A4 := Aside0.mk A40; clear A40; obtain ⟨ji5, hji5⟩ : ∃ j_ : Int, (wrap64 (a1 - a0_0)) = j_ := ⟨_, rfl⟩; replace H : (if 0 ≤ (ji5) then (if (ji5) ≤ (wrap64 (a2 - a0_0)) then (if (wrap64 (a2 - a0_0)) ≤ (l0_2.length : Int) then ((clone_int.f ((l0_2.take ((wrap64 (a2 - a0_0)) : Int).toNat).drop ((ji5) : Int).toNat)).bind fun t476 => (some (a1, t474, t476))) else (none)) else (none)) else (none)) = some (r1, r2, r3) := by first | (rw [hji5] at H; exact H) | (simp only [hji5] at H ⊢; exact H)
 (try rw [hji5] at A4); have hji5w : (IntKind.i64.wrap (a1 - a0_0)) = ji5 := (i64_w _).trans hji5
 by_cases c6 : 0 ≤ (ji5)
 · rw [if_pos c6] at H; have c6b0 := eq_true c6; have c6b1 : decide (0 ≤ (ji5)) = true := decide_eq_true c6; clear c6
   by_cases c7 : (ji5) ≤ (wrap64 (a2 - a0_0))
   · rw [if_pos c7] at H; have c7b0 := eq_true c7; have c7b1 : decide ((ji5) ≤ (wrap64 (a2 - a0_0))) = true := decide_eq_true c7; clear c7
     by_cases c8 : (wrap64 (a2 - a0_0)) ≤ (l0_2.length : Int)
     · rw [if_pos c8] at H; have c8b0 := eq_true c8; have c8b1 : decide ((wrap64 (a2 - a0_0)) ≤ (l0_2.length : Int)) = true := decide_eq_true c8; clear c8; replace H := Option.bind_eq_some_iff.mp H; obtain ⟨t476, A90, H⟩ := H; replace H : (some (a1, t474, t476)) = some (r1, r2, r3) := H; have A9 := Aside0.mk A90; clear A90; simp only [Option.some.injEq, Prod.mk.injEq] at H; obtain ⟨rfl, rfl, rfl⟩ := H; go_enter Try.func76, Try.ntmps76
       try go_wp2_with (first | ((with_reducible refine gate_dst (N := 3) rfl ?_); refine box_event ?hg (N := 3) ?hd (cs := #[.int .i64 a0_0, .int .i64 a0_1, .slice A0_2 l0_2.length c0_2]) (t := 24) ?hr ?_; (case hd => rfl); (case hg => rfl); (case hr => first | (go_simp; done) | (go_simp; rfl)); intro gb472 hg w10 hbox hb; have BK472 := Aside0.mk (hbox); have GW472 := Aside0.mk ((by rw [hg]; exact (below_size (nC HB)) : w.heap.size ≤ gb472)); have GE472 := Aside0.mk ((by rw [hg]; exact (below_size (nC HB)) : w.heap.size ≤ gb472)); replace HB := Aside0.mk (below_step (nC HB) hb); clear hb hbox hg) | ((with_reducible refine gate_dst (N := 6) rfl ?_); refine box_event ?hg (N := 6) ?hd (cs := #[.int .i64 0, .int .i64 0, .slice none 0 0]) (t := 24) ?hr ?_; (case hd => rfl); (case hg => rfl); (case hr => first | (go_simp; done) | (go_simp; rfl)); intro gb473 hg w11 hbox hb; have BK473 := Aside0.mk (hbox); have GW473 := Aside0.mk ((by rw [hg]; exact (below_size (nC HB)) : w.heap.size ≤ gb473)); have GE473 := Aside0.mk ((by rw [hg]; exact (below_size (nC HB)) : w.heap.size ≤ gb473)); replace HB := Aside0.mk (below_step (nC HB) hb); have NB472_473 := Aside0.mk ((by rw [hg]; exact Nat.ne_of_lt (blk_lt (nK BK472)) : gb472 ≠ gb473)); have NB473_472 := Aside0.mk ((by rw [hg]; exact Nat.ne_of_gt (blk_lt (nK BK472)) : gb473 ≠ gb472)); replace BK472 := Aside0.mk (nB BK472 hb); clear hb hbox hg))
       replace BK472 := Aside0.mk (blk_drew BK472.out); replace BK473 := Aside0.mk (blk_drew BK473.out); replace HB := Aside0.mk (below_drew1 HB.out); obtain ⟨i013, hi013, _, hsz13, _⟩ := info_parts info3; obtain ⟨A13, hcut13, hA13, hC13⟩ := print_mid_of (P := Try.prog) (Value.int .i64) 0 22 3 .i64 .i64 Try.underlying22 hi013 hsz13 A0_2 c0_2 l0_2 (ji5) (wrap64 (a2 - a0_0)) (of_decide_eq_true (by first | (with_reducible assumption) | assumption)) (by first | omega | exact of_decide_eq_true (by first | (with_reducible assumption) | assumption)) (of_decide_eq_true (by first | (with_reducible assumption) | assumption)) HC0_2.out; have HR475 := Aside0.mk (Kd.C_of_reads (h1 := fun _ => rfl) (hA13 _ (Kd.reads_of_C HR0_2.out))); have HC475 := Aside0.mk hC13; clear hA13 hC13 hi013 hsz13; refine start_ (n := 18) (S := fun w' => w'.cell? ⟨gb472, 0, none⟩ = some (.int .i64 a0_0) ∧ w'.cell? ⟨gb472, 1, none⟩ = some (.int .i64 a0_1) ∧ w'.cell? ⟨gb472, 2, none⟩ = some (.slice A0_2 l0_2.length c0_2)) (ds := []) #[false, false, false, false, false, false, false, false, false, false, false, false, false, false, false, false, false, false] (by kernel_rfl) rfl rfl ⟨(blk_cell BK472.out 0).trans rfl, (blk_cell BK472.out 1).trans rfl, (blk_cell BK472.out 2).trans rfl⟩ (fun hHeld => ?_); refine with_tabW curve_part.tab1 curve_part.bits1 (fun HT_ HW_ => ?_); generalize w11.drew = w12 at BK472 BK473 HB HR475 hHeld ⊢; refine pure_ (i := 0) (N := some 7) (v := ?_) (a' := ?_) #[true, false, false, false, false, false, false, false, false, false, false, false, false, false, false, false, false, false] rfl rfl (any_of HT_.out (by kernel_rfl)) (fun _ _ _ h => h) (Or.inl ⟨by rfl, ?_⟩) ?_ ?_; rotate_left
       · intro w'; go_simp
         with_reducible rfl
       rotate_left
       · simp only [Act.put, zs1, zs2, zs3, i64_w, i32_w]; rfl
       refine pure_ (i := 2) (N := some 9) (v := ?_) (a' := ?_) #[true, false, true, false, false, false, false, false, false, false, false, false, false, false, false, false, false, false] rfl rfl (any_of HT_.out (by kernel_rfl)) (fun _ _ _ h => h) (Or.inl ⟨by rfl, ?_⟩) ?_ ?_; rotate_left
       · intro w'; go_simp
         with_reducible rfl
       rotate_left
       · simp only [Act.put, zs1, zs2, zs3, i64_w, i32_w]; rfl
       refine pure_ (i := 4) (N := some 11) (v := ?_) (a' := ?_) #[true, false, true, false, true, false, false, false, false, false, false, false, false, false, false, false, false, false] rfl rfl (any_of HT_.out (by kernel_rfl)) (fun _ _ _ h => h) (Or.inl ⟨by rfl, ?_⟩) ?_ ?_; rotate_left
       · intro w'; go_simp
         with_reducible rfl
       rotate_left
       · simp only [Act.put, zs1, zs2, zs3, i64_w, i32_w]; rfl
       refine pure_ (i := 6) (N := some 13) (v := ?_) (a' := ?_) #[true, false, true, false, true, false, true, false, false, false, false, false, false, false, false, false, false, false] rfl rfl (any_of HT_.out (by kernel_rfl)) (fun _ _ _ h => h) (Or.inl ⟨by rfl, ?_⟩) ?_ ?_; rotate_left
       · intro w'; go_simp
         with_reducible rfl
       rotate_left
       · simp only [Act.put, zs1, zs2, zs3, i64_w, i32_w]; rfl
       refine pure_ (i := 7) (N := some 14) (v := ?_) (a' := ?_) #[true, false, true, false, true, false, true, true, false, false, false, false, false, false, false, false, false, false] rfl rfl (any_of HT_.out (by kernel_rfl)) (fun _ _ _ h => h) (Or.inl ⟨by rfl, ?_⟩) ?_ ?_; rotate_left
       · intro w'; go_simp
         with_reducible rfl
       rotate_left
       · simp only [Act.put, zs1, zs2, zs3, i64_w, i32_w]; rfl
       refine pure_ (i := 10) (N := some 17) (v := ?_) (a' := ?_) #[true, false, true, false, true, false, true, true, false, false, true, false, false, false, false, false, false, false] rfl rfl (any_of HT_.out (by kernel_rfl)) (fun _ _ _ h => h) (Or.inl ⟨by rfl, ?_⟩) ?_ ?_; rotate_left
       · intro w'; go_simp
         with_reducible rfl
       rotate_left
       · simp only [Act.put, zs1, zs2, zs3, i64_w, i32_w]; rfl
       refine pure_ (i := 11) (N := some 18) (v := ?_) (a' := ?_) #[true, false, true, false, true, false, true, true, false, false, true, true, false, false, false, false, false, false] rfl rfl (any_of HT_.out (by kernel_rfl)) (fun _ _ _ h => h) (Or.inl ⟨by rfl, ?_⟩) ?_ ?_; rotate_left
       · intro w'; go_simp
         with_reducible rfl
       rotate_left
       · simp only [Act.put, zs1, zs2, zs3, i64_w, i32_w]; rfl
       refine take_ (i := 1) (N := some 8) (v := ?_) (a' := ?_) #[true, true, true, false, true, false, true, true, false, false, true, true, false, false, false, false, false, false] rfl rfl (take_ofW HT_.out HW_.out (by kernel_rfl)) (fun _ _ _ h => h) (Or.inl ⟨by rfl, ?_⟩) hHeld ?_ ?_; rotate_left
       · rintro w' ⟨s0, s1, s2⟩; go_simp
         with_reducible rfl
       rotate_left
       · simp only [Act.put, zs1, zs2, zs3, i64_w, i32_w]; rfl
       refine take_ (i := 5) (N := some 12) (v := ?_) (a' := ?_) #[true, true, true, false, true, true, true, true, false, false, true, true, false, false, false, false, false, false] rfl rfl (take_ofW HT_.out HW_.out (by kernel_rfl)) (fun _ _ _ h => h) (Or.inl ⟨by rfl, ?_⟩) hHeld ?_ ?_; rotate_left
       · rintro w' ⟨s0, s1, s2⟩; go_simp
         with_reducible rfl
       rotate_left
       · simp only [Act.put, zs1, zs2, zs3, i64_w, i32_w]; rfl
       refine take_ (i := 8) (N := some 15) (v := ?_) (a' := ?_) #[true, true, true, false, true, true, true, true, true, false, true, true, false, false, false, false, false, false] rfl rfl (take_ofW HT_.out HW_.out (by kernel_rfl)) (fun _ _ _ h => h) (Or.inl ⟨by rfl, ?_⟩) hHeld ?_ ?_; rotate_left
       · rintro w' ⟨s0, s1, s2⟩; go_simp
         with_reducible rfl
       rotate_left
       · simp only [Act.put, zs1, zs2, zs3, i64_w, i32_w]; rfl
       refine pure_ (i := 9) (N := some 16) (v := ?_) (a' := ?_) #[true, true, true, false, true, true, true, true, true, true, true, true, false, false, false, false, false, false] rfl rfl (any_of HT_.out (by kernel_rfl)) (fun _ _ _ h => h) (Or.inl ⟨by rfl, ?_⟩) ?_ ?_; rotate_left
       · intro w'; go_simp
         with_reducible rfl
       rotate_left
       · simp only [Act.put, zs1, zs2, zs3, i64_w, i32_w]; rfl
       refine take_ (i := 12) (N := some 19) (v := ?_) (a' := ?_) #[true, true, true, false, true, true, true, true, true, true, true, true, true, false, false, false, false, false] rfl rfl (take_ofW HT_.out HW_.out (by kernel_rfl)) (fun _ _ _ h => h) (Or.inl ⟨by rfl, ?_⟩) hHeld ?_ ?_; rotate_left
       · rintro w' ⟨s0, s1, s2⟩; go_simp
         with_reducible rfl
       rotate_left
       · simp only [Act.put, zs1, zs2, zs3, i64_w, i32_w]; rfl
       refine pure_ (i := 13) (N := some 20) (v := ?_) (a' := ?_) #[true, true, true, false, true, true, true, true, true, true, true, true, true, true, false, false, false, false] rfl rfl (any_of HT_.out (by kernel_rfl)) (fun _ _ _ h => h) (Or.inl ⟨by rfl, ?_⟩) ?_ ?_; rotate_left
       · intro w'; go_simp
         with_reducible rfl
       rotate_left
       · simp only [Act.put, zs1, zs2, zs3, i64_w, i32_w]; rfl
       refine pure_ (i := 14) (N := some 21) (v := ?_) (a' := ?_) #[true, true, true, false, true, true, true, true, true, true, true, true, true, true, true, false, false, false] rfl rfl (any_of HT_.out (by kernel_rfl)) (fun _ _ _ h => h) (Or.inl ⟨by rfl, ?_⟩) ?_ ?_; rotate_left
       · intro w'; go_simp
         with_reducible rfl
       rotate_left
       · simp only [Act.put, zs1, zs2, zs3, i64_w, i32_w]; rfl
       refine one_ (i := 3) (N := some 10) #[true, true, true, true, true, true, true, true, true, true, true, true, true, true, true, false, false, false] rfl rfl (one_of HT_.out (by kernel_rfl)) (by decide) (fun K hK => ?_); refine gO Try.func61 #[.agg #[.int .i64 a0_0, .int .i64 a0_1, .slice A0_2 l0_2.length c0_2], .int .i64 a1] ?_
       with_reducible refine (curve_at.calls a0_0 a0_1 _ _ l0_2 a1 t474 _ ?side1 ?side2 A4.out).mono ?_
       (case side1 => exact nS HR0_2 HB); (case side2 => exact HC0_2.out); rintro e w14 ⟨rfl, hb⟩; refine ⟨_, rfl, ?_⟩; replace BK472 := Aside0.mk (nB BK472 hb); replace BK473 := Aside0.mk (nB BK473 hb); replace HB := Aside0.mk (below_step (nC HB) hb); (try clear hb); (try clear hb2); (try clear hk); (try clear hi); refine hK.out _ _ ⟨(blk_cell BK472.out 0).trans rfl, (blk_cell BK472.out 1).trans rfl, (blk_cell BK472.out 2).trans rfl⟩ (fun hHeld => ?_); clear hK K; refine norm_ (a' := ?_) ?_ ?_; rotate_left
       · show Act.put _ (some 10) _ = _; simp only [Act.put, zs1, zs2, zs3, i64_w, i32_w]; rfl
       refine one_ (i := 15) (N := some 22) #[true, true, true, true, true, true, true, true, true, true, true, true, true, true, true, true, false, false] rfl rfl (one_of HT_.out (by kernel_rfl)) (by decide) (fun K hK => ?_); refine goes_ Try.func78 (by kernel_rfl) rfl #[.slice A13 ((l0_2.take ((wrap64 (a2 - a0_0)) : Int).toNat).drop ((ji5) : Int).toNat).length (c0_2 - (ji5).toNat)] (by rfl) rfl rfl (by (try simp only [List.map_toArray, List.map_cons, List.map_nil]); first | done | (rw [show ((l0_2.take ((wrap64 (a2 - a0_0)) : Int).toNat).drop ((ji5) : Int).toNat).length = ((wrap64 (a2 - a0_0)).toNat - (ji5).toNat) from (by rw [List.length_drop, List.length_take]; have h_ : ((wrap64 (a2 - a0_0)) : Int) ≤ (l0_2.length : Int) := of_decide_eq_true (by first | (with_reducible assumption) | assumption); omega)] <;> rfl) | (simp only [hji5]; rfl) | rfl | (simp only [List.length_drop, List.length_take]; rfl)) ?_
       with_reducible refine (clone_int.calls _ _ ((l0_2.take ((wrap64 (a2 - a0_0)) : Int).toNat).drop ((ji5) : Int).toNat) t476 _ ?side1 ?side2 A9.out).mono ?_
       (case side1 => exact nS HR475 HB); (case side2 => exact HC475.out); rintro e w15 ⟨v477, rfl, ho0, hb⟩; refine ⟨_, rfl, ?_⟩; have HO478 := Aside0.mk (Kd.R_lower ho0 (below_size (nC HB))); replace BK472 := Aside0.mk (nB BK472 hb); replace BK473 := Aside0.mk (nB BK473 hb); replace HB := Aside0.mk (below_step (nC HB) hb); (try clear hb); (try clear hb2); (try clear hk); (try clear hi); (try clear ho0); obtain ⟨Ao16, co16, eo16⟩ := Kd.R_slice HO478.out; (first | subst eo16 | (injection eo16 with f1_ f2_ f3_; have f4_ := f1_.symm; have f5_ := f3_.symm; clear f1_ f2_ f3_; subst f4_; subst f5_)); refine hK.out _ _ ⟨(blk_cell BK472.out 0).trans rfl, (blk_cell BK472.out 1).trans rfl, (blk_cell BK472.out 2).trans rfl⟩ (fun hHeld => ?_); clear hK K; refine norm_ (a' := ?_) ?_ ?_; rotate_left
       · show Act.put _ (some 22) _ = _; simp only [Act.put, zs1, zs2, zs3, i64_w, i32_w]; rfl
       refine pure_ (i := 16) (N := some 23) (v := ?_) (a' := ?_) #[true, true, true, true, true, true, true, true, true, true, true, true, true, true, true, true, true, false] rfl rfl (any_of HT_.out (by kernel_rfl)) (fun _ _ _ h => h) (Or.inl ⟨by rfl, ?_⟩) ?_ ?_; rotate_left
       · intro w'; go_simp
         with_reducible rfl
       rotate_left
       · simp only [Act.put, zs1, zs2, zs3, i64_w, i32_w]; rfl
       refine one_ (i := 17) (N := none) #[true, true, true, true, true, true, true, true, true, true, true, true, true, true, true, true, true, true] rfl rfl (one_of HT_.out (by kernel_rfl)) (by decide) (fun K hK => ?_); have hs17 : w15.cell? ⟨gb473, 0, none⟩ = some (.int .i64 0) := (blk_cell BK473.out 0).trans rfl; have hfs17 := blk_frozen BK473.out 0; have hns17_0 := NB472_473.out; have hms17_0 := NB473_472.out; have hs18 : w15.cell? ⟨gb473, 1, none⟩ = some (.int .i64 0) := (blk_cell BK473.out 1).trans rfl; have hfs18 := blk_frozen BK473.out 1; have hns18_0 := NB472_473.out; have hms18_0 := NB473_472.out; have hs19 : w15.cell? ⟨gb473, 2, none⟩ = some (.slice none 0 0) := (blk_cell BK473.out 2).trans rfl; have hfs19 := blk_frozen BK473.out 2; have hns19_0 := NB472_473.out; have hms19_0 := NB473_472.out; refine skip_ (w1 := ?_) (by rfl) rfl ?_ ?_; rotate_left
       · go_simp
         rfl
       refine hK.out _ _ ⟨((cell_far (p := ⟨gb473, _, none⟩) NB472_473.out _).trans (((cell_far (p := ⟨gb473, _, none⟩) NB472_473.out _).trans (((cell_far (p := ⟨gb473, _, none⟩) NB472_473.out _).trans (hHeld.1)))))), ((cell_far (p := ⟨gb473, _, none⟩) NB472_473.out _).trans (((cell_far (p := ⟨gb473, _, none⟩) NB472_473.out _).trans (((cell_far (p := ⟨gb473, _, none⟩) NB472_473.out _).trans (hHeld.2.1)))))), ((cell_far (p := ⟨gb473, _, none⟩) NB472_473.out _).trans (((cell_far (p := ⟨gb473, _, none⟩) NB472_473.out _).trans (((cell_far (p := ⟨gb473, _, none⟩) NB472_473.out _).trans (hHeld.2.2))))))⟩ (fun hHeld => ?_); clear hK K; refine done_ (done_of HT_.out (by kernel_rfl)) ?_; try go_wp2
       refine bodyPost_ret (results_cell_row rfl _ _ gb473 24 #[.int .i64 a1, .int .i64 t474, .slice Ao16 t476.length co16] (0, 0) _ rfl (by (with_reducible repeat (first | refine blk_drewN ?_ _ | refine blk_drew ?_ | refine blk_alloc ?_ _)); refine blk_put (cs := #[.int .i64 a1, .int .i64 t474, .slice none 0 0]) ?_ 2 _ rfl; (with_reducible repeat (first | refine blk_drewN ?_ _ | refine blk_drew ?_ | refine blk_alloc ?_ _)); refine blk_put (cs := #[.int .i64 a1, .int .i64 0, .slice none 0 0]) ?_ 1 _ rfl; (with_reducible repeat (first | refine blk_drewN ?_ _ | refine blk_drew ?_ | refine blk_alloc ?_ _)); refine blk_put (cs := #[.int .i64 0, .int .i64 0, .slice none 0 0]) ?_ 0 _ rfl; (with_reducible repeat (first | refine blk_drewN ?_ _ | refine blk_drew ?_ | refine blk_alloc ?_ _)); exact BK473.out) Try.underlying24 rfl (by kernel_rfl)) rfl ?_; exact ⟨_, by first | rfl | (simp [errW_none, errW_some] <;> rfl) | (simp only [← hji5]; first | rfl | (simp [errW_none, errW_some] <;> rfl)) | (simp [*, errW_none, errW_some] <;> rfl), by (with_reducible repeat (first | apply Kd.R_alloc | apply Kd.R_drewN | apply Kd.R_drew)); exact Kd.R_mono (Kd.R_far (p := ⟨gb473, 2, none⟩) (Kd.R_far (p := ⟨gb473, 1, none⟩) (Kd.R_far (p := ⟨gb473, 0, none⟩) (Kd.R_types HO478.out BK473.out (by decide)) (fun _ hk => hk.2) (.int .i64 a1)) (fun _ hk => hk.2) (.int .i64 t474)) (fun _ hk => hk.2) (.slice Ao16 t476.length co16)) (fun _ hk => trivial), nC HB⟩
     · rw [if_neg c8] at H; exact absurd H (by simp)
   · rw [if_neg c7] at H; exact absurd H (by simp)
 · rw [if_neg c6] at H; exact absurd H (by simp)
end Go.Proofs.Ytingjpcgehgiiaa.Pr
end
section
namespace Go.Proofs.Ytingjpcgehgiiaa.Pr
open Go.RowKit Go.Proofs.YtingjpcgehgiiaaW.PrintWords Go.Proofs.YtingjpcgehgiiaaW.PrintLast Go.Proofs.YtingjpcgehgiiaaW.PrintMore
set_option linter.unusedVariables false
set_option linter.unusedSimpArgs false
/-- The slopes of a part. -/
def sub (c : S24) (lo hi : Int) : List Int := (c.f2.take (hi - c.f0).toNat).drop (lo - c.f0).toNat
/-- What the walk asks of a valid curve. -/
structure Adf (a0 a1 : Int) (l : List Int) : Prop where
  tto : curve_to.f a0 a1 l = some (a0 + (l.length : Int))
  part : ∀ lo hi : Int, inC ⟨a0, a1, l⟩ lo → inC ⟨a0, a1, l⟩ hi → lo ≤ hi → curve_part.f a0 a1 l lo hi = some (lo, valC ⟨a0, a1, l⟩ lo, sub ⟨a0, a1, l⟩ lo hi)
  val : ∀ x, -1099578736640 ≤ valC ⟨a0, a1, l⟩ x ∧ valC ⟨a0, a1, l⟩ x ≤ 1099578736640
  slope : ∀ s ∈ l, -1048576 ≤ s ∧ s ≤ 1048576
  len : l.length ≤ 64
end Go.Proofs.Ytingjpcgehgiiaa.Pr
end
section
namespace Go.Proofs.Ytingjpcgehgiiaa.Pr
open Go.RowKit Go.Sort Go.Shelf Go.Proofs.YtingjpcgehgiiaaW.PrintWords Go.Proofs.YtingjpcgehgiiaaW.PrintLast Go.Proofs.YtingjpcgehgiiaaW.PrintMore
set_option linter.unusedVariables false
set_option linter.unusedSimpArgs false
theorem heap_put {w : World} {g m : Nat} {e : TypeId} {cur : Array Value} {F : Array Value} (os : Array Obj) (hb : w.heap[g]? = some (.cells cur e (0, 0))) :
    (grow (putRow id (Sort.ahead w m) g 0 F) os).heap[g]? = some (.cells (putCells id 0 F cur) e (0, 0)) := by
  have hg : g < w.heap.size := (Array.getElem?_eq_some_iff.1 hb).1
  have h1 : (putRow id (Sort.ahead w m) g 0 F).heap[g]? = some (.cells (putCells id 0 F cur) e (0, 0)) := by
    simp only [putRow, mapBlock, Sort.ahead, Array.getElem?_modify, if_true, hb, Option.map_some, onCells]
  unfold grow
  simp only
  rw [Array.getElem?_append_left (by simpa [putRow, mapBlock, Sort.ahead] using hg)]
  exact h1
theorem grownBy_put {w : World} {g m : Nat} {os : Array Obj} (F : Array Value) : w.grownBy (grow (putRow id (Sort.ahead w m) g 0 F) os) (some g) := by
  refine ⟨rfl, rfl, rfl, by simp [grow, putRow, mapBlock, Sort.ahead], fun k hk hne => ?_⟩
  have : g ≠ k := fun e => hne (by rw [e])
  unfold grow
  simp only
  rw [Array.getElem?_append_left (by simpa [putRow, mapBlock, Sort.ahead] using hk)]
  simp [putRow, mapBlock, Sort.ahead, Array.getElem?_modify, this]
theorem take_put (cur : Array Value) (ts : List Value) (h : ts.length ≤ cur.size) : (putCells id 0 ts.toArray cur).toList.take ts.length = ts := by
  apply List.ext_getElem
  · simp [putCells]
    omega
  · intro i h1 h2
    simp only [putCells, List.getElem_take, Array.getElem_toList, Array.getElem_mapIdx]
    rw [if_pos ⟨by omega, by simpa using h2⟩]
    simp only [id, Nat.sub_zero]
    rw [getElem!_pos _ i (by simpa using h2)]
    simp
theorem own_put {w : World} {base g cap n k m : Nat} {e : TypeId} {os : Array Obj} {cur : Array Value} {ts : List Value} (hbase : base ≤ g) (hb : w.heap[g]? = some (.cells cur e (0, 0)))
    (h1 : n ≤ cap) (h2 : cap ≤ maxLen) (h3 : cur.size = cap * k) (hl : ts.length = n * k) :
    (grow (putRow id (Sort.ahead w m) g 0 ts.toArray) os).ownsRow base e k (.slice (some ⟨g, 0, none⟩) n cap) n ts := by
  refine ⟨hl, .inr ⟨g, cap, _, rfl, hbase, heap_put os hb, h1, h2, by simp [putCells, h3], ?_⟩⟩
  rw [← hl]
  exact take_put cur ts (by rw [hl, h3]; exact Nat.mul_le_mul_right _ h1)
def RowI (w : World) (base : Nat) (v : Value) (l : List Int) : Prop := w.ownsRow base 3 1 v l.length (l.map (Value.int .i64))
theorem row_some {w : World} {base : Nat} {v : Value} {l : List Int} (h : RowI w base v l) (hne : l ≠ []) : ∃ g c cur, v = .slice (some ⟨g, 0, none⟩) l.length c ∧ base ≤ g ∧ w.heap[g]? = some (.cells cur 3 (0, 0)) ∧ l.length ≤ c ∧ c ≤ maxLen ∧ cur.size = c ∧ cur.toList.take l.length = l.map (Value.int .i64) := by
  rcases h.2 with ⟨rfl, h0⟩ | ⟨g, cap, cur, rfl, h1, h2, h3, h4, h5, h6⟩
  · exact absurd (List.eq_nil_of_length_eq_zero h0) hne
  · exact ⟨g, cap, cur, rfl, h1, h2, h3, h4, by omega, by simpa using h6⟩
theorem cur_at {cur : Array Value} {l : List Int} (h : cur.toList.take l.length = l.map (Value.int .i64)) (j : Nat) (hj : j < l.length) : cur[j]? = some (.int .i64 l[j]) := by
  have := congrArg (fun z => z[j]?) h
  simp only [List.getElem?_take, if_pos hj, List.getElem?_map, List.getElem?_eq_getElem hj, Option.map_some] at this
  simpa using this
theorem row_holds {w : World} {g : Nat} {cur : Array Value} {l : List Int} (hb : w.heap[g]? = some (.cells cur 3 (0, 0))) (h : cur.toList.take l.length = l.map (Value.int .i64)) : Holds (Value.int .i64) w g 0 l.toArray := by
  intro j hj
  have hj' : j < l.length := by simpa using hj
  refine ⟨?_, blk_frozen hb _⟩
  rw [blk_cell hb, Nat.zero_add, cur_at h j hj', getElem!_pos l.toArray j hj]
  simp
theorem putRow_id (w : World) (g : Nat) (d : List Int) : putRow (Value.int .i64) w g 0 d.toArray = putRow id w g 0 (d.map (Value.int .i64)).toArray := by
  unfold putRow
  congr 1
  funext c
  unfold putCells
  congr 1
  funext k x
  simp only [Nat.zero_le, true_and, Nat.zero_add, Nat.sub_zero, List.size_toArray, List.length_map, id]
  by_cases hk : k < d.length
  · rw [if_pos hk, if_pos hk, getElem!_pos d.toArray k (by simpa using hk), getElem!_pos (d.map (Value.int .i64)).toArray k (by simpa using hk)]
    simp
  · rw [if_neg hk, if_neg hk]
/-- Laid anew it is owned again; its first m numbers are owned by the slice cut to m. -/
theorem row_put {w : World} {base g c : Nat} {cur : Array Value} {d : List Int} {n : Nat} (m : Nat) (os : Array Obj) (h1 : base ≤ g) (h2 : w.heap[g]? = some (.cells cur 3 (0, 0))) (h3 : n ≤ c) (h4 : c ≤ maxLen) (h5 : cur.size = c) (hd : d.length = n) (q : Nat) (hq : q ≤ n) :
    RowI (grow (putRow (Value.int .i64) (Sort.ahead w m) g 0 d.toArray) os) base (.slice (some ⟨g, 0, none⟩) q c) (d.take q) ∧ w.grownBy (grow (putRow (Value.int .i64) (Sort.ahead w m) g 0 d.toArray) os) (some g) := by
  rw [putRow_id]
  refine ⟨?_, grownBy_put _⟩
  have := own_put (w := w) (base := base) (g := g) (cap := c) (n := n) (k := 1) (m := m) (e := 3) (os := os) (cur := cur) (ts := d.map (Value.int .i64)) h1 h2 h3 h4 (by omega) (by simp [hd])
  rcases this with ⟨_, ⟨e, _⟩ | ⟨g', cap', cur', e, a1, a2, a3, a4, a5, a6⟩⟩
  · cases e
  · injection e with e1 _ e3
    injection e1 with e1
    injection e1 with e1
    subst e1 e3
    have hlen : (d.take q).length = q := by rw [List.length_take]; omega
    refine ⟨by simp, .inr ⟨g, c, cur', by rw [hlen], a1, a2, by omega, a4, a5, ?_⟩⟩
    rw [hlen, Nat.mul_one, List.map_take, ← a6, List.take_take]
    congr 1
    omega
end Go.Proofs.Ytingjpcgehgiiaa.Pr
end
section
namespace Go.Proofs
open Go.Shelf
def Try.lays189_ren : Go.Shelf.Ren := ⟨fun | 189 => 50 | 125 => 81 | 257 => 80 | 128 => 96 | 129 => 97 | 294 => 88 | 295 => 89 | 296 => 90 | 297 => 91 | 298 => 92 | 299 => 93 | 216 => 82 | 300 => 94 | 301 => 95 | 328 => 100 | 329 => 101 | 330 => 102 | 331 => 103 | 332 => 104 | 215 => 98 | 343 => 105 | n => n, fun | 28 => 22 | 3 => 3 | 46 => 98 | 0 => 0 | 51 => 112 | 53 => 114 | 4 => 4 | 183 => 106 | 182 => 105 | 131 => 31 | 5 => 5 | 9 => 9 | 218 => 115 | 222 => 119 | 228 => 121 | 229 => 74 | n => n, fun | n => n⟩
theorem Try.lays189 : Go.Proofs.Lays.n189 Try.prog Try.lays189_ren := {
  mixed := by kernel_rfl
  f125 := Try.func81.trans (congrArg some (by kernel_rfl))
  f128 := Try.func96.trans (congrArg some (by kernel_rfl))
  f129 := Try.func97.trans (congrArg some (by kernel_rfl))
  f189 := Try.func50.trans (congrArg some (by kernel_rfl))
  f215 := Try.func98.trans (congrArg some (by kernel_rfl))
  f216 := Try.func82.trans (congrArg some (by kernel_rfl))
  f257 := Try.func80.trans (congrArg some (by kernel_rfl))
  f294 := Try.func88.trans (congrArg some (by kernel_rfl))
  f295 := Try.func89.trans (congrArg some (by kernel_rfl))
  f296 := Try.func90.trans (congrArg some (by kernel_rfl))
  f297 := Try.func91.trans (congrArg some (by kernel_rfl))
  f298 := Try.func92.trans (congrArg some (by kernel_rfl))
  f299 := Try.func93.trans (congrArg some (by kernel_rfl))
  f300 := Try.func94.trans (congrArg some (by kernel_rfl))
  f301 := Try.func95.trans (congrArg some (by kernel_rfl))
  f328 := Try.func100.trans (congrArg some (by kernel_rfl))
  f329 := Try.func101.trans (congrArg some (by kernel_rfl))
  f330 := Try.func102.trans (congrArg some (by kernel_rfl))
  f331 := Try.func103.trans (congrArg some (by kernel_rfl))
  f332 := Try.func104.trans (congrArg some (by kernel_rfl))
  f343 := Try.func105.trans (congrArg some (by kernel_rfl))
  t0 := Try.underlying0
  a0 := Try.isAgg0
  z0 := Try.sizeOf0
  v0 := Try.zeroValue0
  t3 := Try.underlying3
  a3 := Try.isAgg3
  z3 := Try.sizeOf3
  v3 := Try.zeroValue3
  t4 := Try.underlying4
  a4 := Try.isAgg4
  z4 := Try.sizeOf4
  v4 := Try.zeroValue4
  t5 := Try.underlying5
  a5 := Try.isAgg5
  z5 := Try.sizeOf5
  v5 := Try.zeroValue5
  t9 := Try.underlying9
  a9 := Try.isAgg9
  z9 := Try.sizeOf9
  v9 := Try.zeroValue9
  t28 := Try.underlying22
  a28 := Try.isAgg22
  z28 := Try.sizeOf22
  v28 := Try.zeroValue22
  t46 := Try.underlying98
  a46 := Try.isAgg98
  z46 := Try.sizeOf98
  v46 := Try.zeroValue98
  t51 := Try.underlying112
  a51 := Try.isAgg112
  z51 := Try.sizeOf112
  v51 := Try.zeroValue112
  t53 := Try.underlying114
  a53 := Try.isAgg114
  z53 := Try.sizeOf114
  v53 := Try.zeroValue114
  t131 := Try.underlying31
  a131 := Try.isAgg31
  z131 := Try.sizeOf31
  v131 := Try.zeroValue31
  t182 := Try.underlying105
  a182 := Try.isAgg105
  z182 := Try.sizeOf105
  v182 := Try.zeroValue105
  t183 := Try.underlying106
  a183 := Try.isAgg106
  z183 := Try.sizeOf106
  v183 := Try.zeroValue106
  t218 := Try.underlying115
  a218 := Try.isAgg115
  z218 := Try.sizeOf115
  v218 := Try.zeroValue115
  t222 := Try.underlying119
  a222 := Try.isAgg119
  z222 := Try.sizeOf119
  v222 := Try.zeroValue119
  t228 := Try.underlying121
  a228 := Try.isAgg121
  z228 := Try.sizeOf121
  v228 := Try.zeroValue121
  t229 := Try.underlying74
  a229 := Try.isAgg74
  z229 := Try.sizeOf74
  v229 := Try.zeroValue74 }
open Go.Sort Go.RowKit in
theorem Try.slices_Sort_int (blk off cap : Nat) (zs : List Int) (w : World) (hH : Holds (Value.int .i64) w blk off zs.toArray) (hblk : blk < w.heap.size) (hsz : zs.length < 4611686018427387904) :
    Calls Try.prog 50 #[.slice (some ⟨blk, off, none⟩) zs.length cap] w fun e w' =>
      e = .returned (.tuple #[]) ∧ ∃ n os, w' = grow (putRow (Value.int .i64) (Sort.ahead w n) blk off (zs.mergeSort fun x y => decide (x ≤ y)).toArray) os := Any.slices_Sort_int Try.lays189 blk off cap zs w hH hblk hsz
open Go.RowKit Go.Sort in
/-- .. and plain. (LAID: no walk: one application.) -/
theorem Try.slices_Sort_int_none (p : Option Addr) (cap : Nat) (w : World) :
    Calls Try.prog 50 #[.slice p 0 cap] w fun e w' => e = .returned (.tuple #[]) ∧ w' = w := Any.slices_Sort_int_none Try.lays189 p cap w
def Try.grow79_ren : Go.Shelf.Ren := ⟨fun | 4 => 79 | n => n, fun | 22 => 22 | 25 => 3 | 3 => 3 | 4 => 4 | 9 => 9 | 20 => 20 | 0 => 0 | n => n, fun | n => n⟩
theorem Try.grow79 : Go.Proofs.Lays8.n4 Try.prog Try.grow79_ren := {
  mixed := by kernel_rfl
  f4 := ⟨Try.f79.name, by decide, Try.func79.trans (congrArg some (by kernel_rfl))⟩
  t0 := Try.underlying0
  a0 := Try.isAgg0
  z0 := Try.sizeOf0
  v0 := Try.zeroValue0
  t3 := Try.underlying3
  a3 := Try.isAgg3
  z3 := Try.sizeOf3
  v3 := Try.zeroValue3
  t4 := Try.underlying4
  a4 := Try.isAgg4
  z4 := Try.sizeOf4
  v4 := Try.zeroValue4
  t9 := Try.underlying9
  a9 := Try.isAgg9
  z9 := Try.sizeOf9
  v9 := Try.zeroValue9
  t20 := Try.underlying20
  a20 := Try.isAgg20
  z20 := Try.sizeOf20
  v20 := Try.zeroValue20
  t22 := Try.underlying22
  a22 := Try.isAgg22
  z22 := Try.sizeOf22
  v22 := Try.zeroValue22 }
open Go.RowKit Go.Lib in
/-- slices.Grow where there is room. -/
theorem Try.slices_Grow_room (base : Option Addr) (l c n : Nat) (w : World) (hlc : l ≤ c) (hc63 : c ≤ 9223372036854775807) (hn63 : n ≤ 9223372036854775807) (hroom : l + n ≤ c) :
    Calls Try.prog 79 #[.slice base l c, .int .i64 n] w fun e w' => e = .returned (.slice base l c) ∧ w' = w := Any8.slices_Grow_room Try.grow79 base l c n w hlc hc63 hn63 hroom
open Go.RowKit Go.Lib in
/-- slices.Grow of nil. -/
theorem Try.slices_Grow_nil (i0 : TypeInfo) (z : Value) (hi0 : Try.prog.info? 3 = some i0) (hz0 : i0.zero = some z) (hs0 : 0 < i0.size) (n : Nat) (w : World) (hroom : 0 < 0 + n) (hbig : (0 + n) * i0.bytes ≤ 140737488355328) (h63 : 0 + n ≤ 4611686018427387904) :
    Calls Try.prog 79 #[.slice none 0 0, .int .i64 n] w fun e w' =>
      e = .returned (.slice (some ⟨w.heap.size, 0, none⟩) 0 (grownCap w (0 + n) 0 3)) ∧
      w' = w.drew.alloc (.cells (([] : List Value).toArray ++ Builtin.zeroCells z.cells (0 + n - 0) ++ Builtin.zeroCells z.cells (grownCap w (0 + n) 0 3 - (0 + n))) 3) := Any8.slices_Grow_grow Try.grow79 i0 z hi0 hz0 hs0 none 0 0 n [] w (Nat.le_refl _) hroom hbig h63 (by simp) (fun _ => rfl) (fun a h => by cases h)
end Go.Proofs
end
section
namespace Go.Proofs.Ytingjpcgehgiiaa.Pr
open Go.RowKit Go.Shelf Go.Proofs.YtingjpcgehgiiaaW.PrintWords Go.Proofs.YtingjpcgehgiiaaW.PrintLast Go.Proofs.YtingjpcgehgiiaaW.PrintMore
set_option linter.unusedVariables false
set_option linter.unusedSimpArgs false
/-- A slice of a call's own with no numbers, and room for n. -/
theorem grow_nil (n : Nat) (w : World) (hn : n ≤ 1000000) : Calls Try.prog 79 #[.slice none 0 0, .int .i64 n] w fun e w' => ∃ v, e = .returned v ∧ Kd.R (Kd.int .i64) 3 w' w.heap.size (fun _ => True) v [] ∧ Below w.heap.size w w' := by
  rcases Nat.eq_zero_or_pos n with rfl | h0
  · refine (Try.slices_Grow_room none 0 0 0 w (by omega) (by omega) (by omega) (by omega)).mono ?_
    rintro e w' ⟨rfl, rfl⟩
    exact ⟨_, rfl, Kd.R_nil _ _ _ _ _, Below.refl _ _⟩
  · obtain ⟨i0, hi, hz, hs, hb⟩ := info_parts info3
    refine (Try.slices_Grow_nil i0 (.int .i64 0) hi hz (by omega) n w (by omega) (by rw [hb]; omega) (by omega)).mono ?_
    rintro e w' ⟨rfl, rfl⟩
    have hge := grownCap_ge w (0 + n) 0 3
    have hle := grownCap_le_maxLen w (0 + n) 0 3 (by unfold maxLen; omega)
    generalize grownCap w (0 + n) 0 3 = G at hge hle ⊢
    refine ⟨_, rfl, ⟨fun _ _ => trivial, [], ⟨rfl, .inr ⟨w.heap.size, G, _, rfl, Nat.le_refl _, blk_new w.drew _, Nat.zero_le _, hle, ?_, rfl⟩⟩, Reps.none _ _⟩, ?_⟩
    · simp [size_zeroCells, Value.cells]
      change n + (G - n) = G * 1
      omega
    · exact below_alloc (below_drew1 (Below.refl _ _)) _
set_option maxHeartbeats 4000000 in
set_option maxRecDepth 100000 in
/-- slices.Concat of two lists. -/
theorem concat_two (gb : Nat) (A1 A2 : Option Addr) (c1 c2 : Nat) (l m : List Int) (w : World) (hg : w.heap[gb]? = some (.cells #[.slice A1 l.length c1, .slice A2 m.length c2] 22 (0, 0))) (hr1 : Kd.C (Kd.int .i64) w A1 l.length l) (hr2 : Kd.C (Kd.int .i64) w A2 m.length m) (hl : l.length ≤ 1000) (hm : m.length ≤ 1000) :
    Calls Try.prog 49 #[.slice (some ⟨gb, 0, none⟩) 2 2] w fun e w' => ∃ v, e = .returned v ∧ Kd.R (Kd.int .i64) 3 w' w.heap.size (fun _ => True) v (l ++ m) ∧ Below w.heap.size w w' := by
  have HR1 := Aside0.mk hr1
  have HR2 := Aside0.mk hr2
  have HG := Aside0.mk hg
  have hz0 : w.cell? ⟨gb, 0, none⟩ = some (.slice A1 l.length c1) := (blk_cell hg 0).trans rfl
  have hz1 : w.cell? ⟨gb, 1, none⟩ = some (.slice A2 m.length c2) := (blk_cell hg 1).trans rfl
  have ZZ0 := Aside0.mk hz0
  have ZZ1 := Aside0.mk hz1
  clear hr1 hr2 hg
  go_enter Try.func49, Try.ntmps49
  go_wp2
  go_loopg [3, 11] 2 (fun gg v3 v11 wr => ∃ kk : Nat, kk ≤ 2 ∧ 2 - kk ≤ gg ∧ v3 = .int .i64 (if kk = 0 then 0 else if kk = 1 then (l.length : Int) else ((l.length + m.length : Nat) : Int)) ∧ v11 = .int .i64 kk ∧ w = wr)
  case atStart => exact ⟨0, by omega, by omega, rfl, rfl, rfl⟩
  case round =>
    obtain ⟨kk, hkk, hg, rfl, rfl, rfl⟩ := hrel
    rcases (by omega : kk = 0 ∨ kk = 1 ∨ kk = 2) with rfl | rfl | rfl
    · go_wp2
      go_roundg 1
      case measure => omega
      case rel => exact ⟨1, by omega, by omega, rfl, rfl, rfl⟩
    · have hw : IntKind.i64.wrap ((l.length : Int) + (m.length : Int)) = (l.length : Int) + (m.length : Int) := by rw [i64_w]; unfold wrap64; omega
      have hn : ¬ (l.length : Int) + (m.length : Int) < 0 := by omega
      go_wp2
      go_roundg 0
      case measure => omega
      case rel => exact ⟨2, by omega, by omega, by first | rfl | simp, rfl, rfl⟩
    · have hG := Aside0.mk (grow_nil (l.length + m.length) w (by omega))
      go_wp2_with (go_at_call 79; refine hG.out.mono ?_; rintro e w1 ⟨v1, rfl, ho1, hb1⟩; obtain ⟨A3, c3, e3⟩ := Kd.R_slice ho1; subst e3; have hy0 := (hb1.cell (p := ⟨gb, 0, none⟩) (World.block_lt_of_cell? _ _ hz0)).trans hz0; have hy1 := (hb1.cell (p := ⟨gb, 1, none⟩) (World.block_lt_of_cell? _ _ hz1)).trans hz1; clear hz0 hz1)
      have HO1 := Aside0.mk ho1
      have HB1 := Aside0.mk hb1
      clear ho1 hb1 hg hkk
      clear hy0 hy1
      go_loopg [6, 27] 2 (fun gg v6 v27 wr => ∃ kk : Nat, kk ≤ 2 ∧ 2 - kk ≤ gg ∧ v27 = .int .i64 kk ∧ Aside0 (Kd.R (Kd.int .i64) 3 wr w.heap.size (fun _ => True) v6 (if kk = 0 then [] else if kk = 1 then l else l ++ m)) ∧ Aside0 (Below w.heap.size w wr))
      case atStart => exact ⟨0, by omega, by omega, rfl, HO1, HB1⟩
      case round =>
        obtain ⟨kk, hkk, hg, rfl, HO, HB⟩ := hrel
        have hy0 := (HB.out.cell (p := ⟨gb, 0, none⟩) (World.block_lt_of_cell? _ _ ZZ0.out)).trans ZZ0.out
        have hy1 := (HB.out.cell (p := ⟨gb, 1, none⟩) (World.block_lt_of_cell? _ _ ZZ1.out)).trans ZZ1.out
        rcases (by omega : kk = 0 ∨ kk = 1 ∨ kk = 2) with rfl | rfl | rfl
        · obtain ⟨A5, c5, e5⟩ := Kd.R_slice HO.out
          subst e5
          go_wp2_with (at_builtin; refine Kd.R_append_rows (Kd.int .i64) (Rr := (Kd.int .i64).K w) (w0 := w) w.heap.size rfl (.tmp 31) (.tmp 32) 22 3 (.int .i64 0) 8 rfl Try.underlying22 info3 rfl (by decide) (by omega) _ ([]) l A1 l.length c1 (fun _ => True) (fun _ => False) rfl rfl HO.out ?aR ?aK (fun _ hk => hk.elim) (fun _ _ => trivial) HB.out HB.out.size ?aL ?_; (case aR => exact (Kd.C_below HR1.out HB.out)); (case aK => (intro x cs hx; exact hx)); (case aL => (first | omega | (simp; omega))); intro v2 w2 ho2 hb2 hg2 hn2; clear hg2 hn2; obtain ⟨A4, c4, e4⟩ := Kd.R_slice ho2; subst e4)
          go_roundg 1
          case measure => omega
          case rel => exact ⟨1, by omega, by omega, rfl, ⟨ho2⟩, ⟨hb2⟩⟩
        · obtain ⟨A5, c5, e5⟩ := Kd.R_slice HO.out
          subst e5
          go_wp2_with (at_builtin; refine Kd.R_append_rows (Kd.int .i64) (Rr := (Kd.int .i64).K w) (w0 := w) w.heap.size rfl (.tmp 31) (.tmp 32) 22 3 (.int .i64 0) 8 rfl Try.underlying22 info3 rfl (by decide) (by omega) _ (l) m A2 m.length c2 (fun _ => True) (fun _ => False) rfl rfl HO.out ?aR ?aK (fun _ hk => hk.elim) (fun _ _ => trivial) HB.out HB.out.size ?aL ?_; (case aR => exact (Kd.C_below HR2.out HB.out)); (case aK => (intro x cs hx; exact hx)); (case aL => (first | omega | (simp; omega))); intro v2 w2 ho2 hb2 hg2 hn2; clear hg2 hn2; obtain ⟨A4, c4, e4⟩ := Kd.R_slice ho2; subst e4)
          go_roundg 0
          case measure => omega
          case rel => exact ⟨2, by omega, by omega, rfl, ⟨by have h := ho2; rw [List.length_append] at h; exact h⟩, ⟨hb2⟩⟩
        · obtain ⟨A5, c5, e5⟩ := Kd.R_slice HO.out
          subst e5
          go_wp2
          go_ret
          exact ⟨_, rfl, HO.out, HB.out⟩
def sortL (l : List Int) : List Int := l.mergeSort fun x y => decide (x ≤ y)
theorem sortL_len (l : List Int) : (sortL l).length = l.length := List.length_mergeSort _
/-- slices.Sort of a row of the call's own. -/
theorem sort_own (v : Value) (l : List Int) (base : Nat) (w : World) (h : Kd.R (Kd.int .i64) 3 w base (fun _ => True) v l) (hl : l.length ≤ 1000000) :
    Calls Try.prog 50 #[v] w fun e w' => e = .returned (.tuple #[]) ∧ Kd.R (Kd.int .i64) 3 w' base (fun _ => True) v (sortL l) ∧ w.grownBy w' v.ownBlock := by
  have hr : RowI w base v l := Kd.own_of_R h
  rcases l with _ | ⟨x, t⟩
  · obtain ⟨A, c, rfl⟩ := Kd.R_slice h
    refine (Try.slices_Sort_int_none A c w).mono ?_
    rintro e w' ⟨rfl, rfl⟩
    have e0 : sortL [] = [] := by simp [sortL]
    rw [e0]
    exact ⟨rfl, h, grown_of_below (Below.refl _ _) _⟩
  · obtain ⟨g, c, cur, rfl, g1, g2, g3, g4, g5, g6⟩ := row_some hr (by simp)
    have glt := (Array.getElem?_eq_some_iff.1 g2).1
    refine (Try.slices_Sort_int g 0 c (x :: t) w (row_holds g2 g6) glt (by omega)).mono ?_
    rintro e w' ⟨rfl, m, os, rfl⟩
    obtain ⟨r1, r2⟩ := row_put m os g1 g2 g3 g4 g5 (sortL_len (x :: t)) (x :: t).length (Nat.le_refl _)
    rw [List.take_of_length_le (by rw [sortL_len]; exact Nat.le_refl _)] at r1
    exact ⟨rfl, Kd.R_of_own r1 (fun _ _ => trivial), r2⟩
/-- A curve is stored into a result's block of its own. -/
theorem store_curve {w W : World} {g : Nat} {a b c v : Value} {x y : Int} {l : List Int} (HB : Below w.heap.size w W) (GE : w.heap.size ≤ g) (BK : W.heap[g]? = some (.cells #[a, b, c] 24 (0, 0))) (hR : Kd.R (Kd.int .i64) 3 W w.heap.size (fun k => k ≠ g) v l) :
    (((W.setCell ⟨g, 0, none⟩ (.int .i64 x)).setCell ⟨g, 1, none⟩ (.int .i64 y)).setCell ⟨g, 2, none⟩ v).heap[g]? = some (.cells #[.int .i64 x, .int .i64 y, v] 24 (0, 0)) ∧
    Kd.R (Kd.int .i64) 3 (((W.setCell ⟨g, 0, none⟩ (.int .i64 x)).setCell ⟨g, 1, none⟩ (.int .i64 y)).setCell ⟨g, 2, none⟩ v) w.heap.size (fun _ => True) v l ∧
    Below w.heap.size w (((W.setCell ⟨g, 0, none⟩ (.int .i64 x)).setCell ⟨g, 1, none⟩ (.int .i64 y)).setCell ⟨g, 2, none⟩ v) :=
  ⟨blk_put (blk_put (blk_put BK 0 _ rfl) 1 _ rfl) 2 _ rfl,
   Kd.R_mono (Kd.R_far (p := ⟨g, 2, none⟩) (Kd.R_far (p := ⟨g, 1, none⟩) (Kd.R_far (p := ⟨g, 0, none⟩) hR (fun _ hk => hk) _) (fun _ hk => hk) _) (fun _ hk => hk) _) (fun _ _ => trivial),
   below_set (below_set (below_set HB GE) GE) GE⟩
theorem blk_sort {w w' : World} {g : Nat} {cs : Array Value} {base : Nat} {v : Value} {l : List Int} (BK : w.heap[g]? = some (.cells cs 24 (0, 0))) (hR : Kd.R (Kd.int .i64) 3 w base (fun _ => True) v l) (hg : w.grownBy w' v.ownBlock) : w'.heap[g]? = some (.cells cs 24 (0, 0)) := by
  refine (hg.block g (Array.getElem?_eq_some_iff.1 BK).1 (fun e => ?_)).trans BK
  obtain ⟨cells, hc⟩ := own_typed hR.2.choose_spec.1 g e.symm
  rw [BK] at hc
  cases hc
def joinR (a0 a1 : Int) (l : List Int) (b0 b1 : Int) (m : List Int) : Int × Int × List Int × Int :=
  if (validC a0 a1 l && validC b0 b1 m) = true then
    (if validC (wrap64 (a0 + b0)) (wrap64 (a1 + b1)) (sortL (l ++ m)) = true then (wrap64 (a0 + b0), wrap64 (a1 + b1), sortL (l ++ m), 0) else (0, 0, [], 4))
  else (0, 0, [], 2)
def curve_Join.f (a0_0 a0_1 : Int) (l0_2 : List Int) (a1_0 a1_1 : Int) (l1_2 : List Int) : Option (Int × Int × List Int × Int) := some (joinR a0_0 a0_1 l0_2 a1_0 a1_1 l1_2)
theorem validC_len {a0 a1 : Int} {l : List Int} (h : validC a0 a1 l = true) : l.length ≤ 64 := by
  unfold validC at h
  simp only [Bool.and_eq_true, decide_eq_true_eq] at h
  exact h.2.2.1
set_option maxHeartbeats 8000000 in
set_option maxRecDepth 100000 in
theorem curve_Join.calls (a0_0 a0_1 : Int) (A0_2 : Option Addr) (c0_2 : Nat) (l0_2 : List Int) (a1_0 a1_1 : Int) (A1_2 : Option Addr) (c1_2 : Nat) (l1_2 : List Int) (r1 r2 : Int) (r3 : List Int) (r4 : Int) (w : World) (hr0_2 : Kd.C (Kd.int .i64) w A0_2 l0_2.length l0_2) (hc0_2 : l0_2.length ≤ c0_2) (hr1_2 : Kd.C (Kd.int .i64) w A1_2 l1_2.length l1_2) (hc1_2 : l1_2.length ≤ c1_2) (h : curve_Join.f a0_0 a0_1 l0_2 a1_0 a1_1 l1_2 = some (r1, r2, r3, r4)) :
    Calls Try.prog 14 #[.agg #[.int .i64 a0_0, .int .i64 a0_1, .slice A0_2 l0_2.length c0_2], .agg #[.int .i64 a1_0, .int .i64 a1_1, .slice A1_2 l1_2.length c1_2]] w fun e w' => ∃ v_ : Value, e = .returned (.tuple #[.agg #[.int .i64 r1, .int .i64 r2, v_], .int .i64 r4]) ∧ Kd.R (Kd.int .i64) 3 w' w.heap.size (fun _ => True) v_ r3 ∧ Below w.heap.size w w' := by
  have hj : joinR a0_0 a0_1 l0_2 a1_0 a1_1 l1_2 = (r1, r2, r3, r4) := Option.some.inj h
  have HR0 := Aside0.mk hr0_2
  have HR1 := Aside0.mk hr1_2
  have HC0 := Aside0.mk hc0_2
  have HC1 := Aside0.mk hc1_2
  unfold joinR at hj
  have V0 := Aside0.mk (show curve_Valid.f a0_0 a0_1 l0_2 = some (validC a0_0 a0_1 l0_2) from rfl)
  have V1 := Aside0.mk (show curve_Valid.f a1_0 a1_1 l1_2 = some (validC a1_0 a1_1 l1_2) from rfl)
  have L0 := Aside0.mk (fun h => @validC_len a0_0 a0_1 l0_2 h)
  have L1 := Aside0.mk (fun h => @validC_len a1_0 a1_1 l1_2 h)
  obtain ⟨ll, hll⟩ : ∃ ll, ll = l0_2 ++ l1_2 := ⟨_, rfl⟩
  rw [← hll] at hj
  have HLL := Aside0.mk hll
  have HJ := Aside0.mk hj
  clear hll
  clear h hj hr0_2 hr1_2 hc0_2 hc1_2
  generalize validC a0_0 a0_1 l0_2 = b0 at V0 L0 HJ
  generalize validC a1_0 a1_1 l1_2 = b1 at V1 L1 HJ
  go_enter Try.func14, Try.ntmps14
  go_wp2_with (first | ((with_reducible refine gate_dst (N := 2) rfl ?_); refine box_event ?hg (N := 2) ?hd (cs := #[.int .i64 a0_0, .int .i64 a0_1, .slice A0_2 l0_2.length c0_2]) (t := 24) ?hr ?_; (case hd => rfl); (case hg => rfl); (case hr => first | (go_simp; done) | (go_simp; rfl)); intro g2 hg w1 hbox hb; have HB1 := Aside0.mk hb; have BKa1 := Aside0.mk hbox; clear hb hg hbox) | ((with_reducible refine gate_dst (N := 3) rfl ?_); refine box_event ?hg (N := 3) ?hd (cs := #[.int .i64 a1_0, .int .i64 a1_1, .slice A1_2 l1_2.length c1_2]) (t := 24) ?hr ?_; (case hd => rfl); (case hg => rfl); (case hr => first | (go_simp; done) | (go_simp; rfl)); intro g3 hg w2 hbox hb; have HB2 := Aside0.mk (below_then HB1.out HB1.out.size hb); have BKa2 := Aside0.mk (blk_below BKa1.out hb); have BKb2 := Aside0.mk hbox; clear hb hg hbox HB1 BKa1) | ((with_reducible refine gate_dst (N := 4) rfl ?_); refine box_event ?hg (N := 4) ?hd (cs := #[.int .i64 0, .int .i64 0, .slice none 0 0]) (t := 24) ?hr ?_; (case hd => rfl); (case hg => rfl); (case hr => first | (go_simp; done) | (go_simp; rfl)); intro g4 hg w3 hbox hb; have HB3 := Aside0.mk (below_then HB2.out HB2.out.size hb); have BKa3 := Aside0.mk (blk_below BKa2.out hb); have BKb3 := Aside0.mk (blk_below BKb2.out hb); have BKc3 := Aside0.mk hbox; have GE := Aside0.mk (show w.heap.size ≤ g4 by rw [hg]; exact HB2.out.size); clear hb hg hbox HB2 BKa2 BKb2; have hx0 : w3.cell? ⟨g2, 0, none⟩ = some (.int .i64 a0_0) := (blk_cell BKa3.out 0).trans rfl; have hx1 : w3.cell? ⟨g2, 1, none⟩ = some (.int .i64 a0_1) := (blk_cell BKa3.out 1).trans rfl; have hx2 : w3.cell? ⟨g2, 2, none⟩ = some (.slice A0_2 l0_2.length c0_2) := (blk_cell BKa3.out 2).trans rfl))
  go_wp2_with (go_at_call 16; (with_reducible refine (curve_Valid.calls a0_0 a0_1 _ _ l0_2 _ _ (Kd.C_below HR0.out HB3.out) HC0.out V0.out).mono ?_); rintro e w4 ⟨rfl, hb4⟩; have HB4 := Aside0.mk (below_then HB3.out HB3.out.size hb4); have BKa4 := Aside0.mk (blk_below BKa3.out hb4); have BKb4 := Aside0.mk (blk_below BKb3.out hb4); have BKc4 := Aside0.mk (blk_below BKc3.out hb4); clear hb4 HB3 BKa3 BKb3 BKc3 hx0 hx1 hx2; have hy0 : w4.cell? ⟨g3, 0, none⟩ = some (.int .i64 a1_0) := (blk_cell BKb4.out 0).trans rfl; have hy1 : w4.cell? ⟨g3, 1, none⟩ = some (.int .i64 a1_1) := (blk_cell BKb4.out 1).trans rfl; have hy2 : w4.cell? ⟨g3, 2, none⟩ = some (.slice A1_2 l1_2.length c1_2) := (blk_cell BKb4.out 2).trans rfl; have hz0 : w4.cell? ⟨g4, 0, none⟩ = some (.int .i64 0) := (blk_cell BKc4.out 0).trans rfl; have hf0 := blk_frozen BKc4.out 0; have hz1 : w4.cell? ⟨g4, 1, none⟩ = some (.int .i64 0) := (blk_cell BKc4.out 1).trans rfl; have hf1 := blk_frozen BKc4.out 1; have hz2 : w4.cell? ⟨g4, 2, none⟩ = some (.slice none 0 0) := (blk_cell BKc4.out 2).trans rfl; have hf2 := blk_frozen BKc4.out 2; cases b0)
  · go_wp2
    obtain ⟨e1, e2, e3⟩ := store_curve (x := 0) (y := 0) (v := .slice none 0 0) HB4.out GE.out BKc4.out (Kd.R_nil _ _ _ _ _)
    obtain ⟨rfl, rfl, rfl, rfl⟩ : 0 = r1 ∧ 0 = r2 ∧ [] = r3 ∧ 2 = r4 := by have h := HJ.out; simpa using h
    refine bodyPost_ret (results_ct rfl _ _ g4 24 _ (0, 0) _ rfl e1 Try.underlying24 rfl (by kernel_rfl)) rfl ?_
    exact ⟨_, rfl, e2, e3⟩
  · go_wp2_with (go_at_call 16; (with_reducible refine (curve_Valid.calls a1_0 a1_1 _ _ l1_2 _ _ (Kd.C_below HR1.out HB4.out) HC1.out V1.out).mono ?_); rintro e w5 ⟨rfl, hb5⟩; have HB5 := Aside0.mk (below_then HB4.out HB4.out.size hb5); have BKa5 := Aside0.mk (blk_below BKa4.out hb5); have BKb5 := Aside0.mk (blk_below BKb4.out hb5); have BKc5 := Aside0.mk (blk_below BKc4.out hb5); clear hb5 HB4 BKa4 BKb4 BKc4 hy0 hy1 hy2 hz0 hz1 hz2 hf0 hf1 hf2; have hx0 : w5.cell? ⟨g2, 0, none⟩ = some (.int .i64 a0_0) := (blk_cell BKa5.out 0).trans rfl; have hx1 : w5.cell? ⟨g2, 1, none⟩ = some (.int .i64 a0_1) := (blk_cell BKa5.out 1).trans rfl; have hx2 : w5.cell? ⟨g2, 2, none⟩ = some (.slice A0_2 l0_2.length c0_2) := (blk_cell BKa5.out 2).trans rfl; have hy0 : w5.cell? ⟨g3, 0, none⟩ = some (.int .i64 a1_0) := (blk_cell BKb5.out 0).trans rfl; have hy1 : w5.cell? ⟨g3, 1, none⟩ = some (.int .i64 a1_1) := (blk_cell BKb5.out 1).trans rfl; have hy2 : w5.cell? ⟨g3, 2, none⟩ = some (.slice A1_2 l1_2.length c1_2) := (blk_cell BKb5.out 2).trans rfl; have hz0 : w5.cell? ⟨g4, 0, none⟩ = some (.int .i64 0) := (blk_cell BKc5.out 0).trans rfl; have hf0 := blk_frozen BKc5.out 0; have hz1 : w5.cell? ⟨g4, 1, none⟩ = some (.int .i64 0) := (blk_cell BKc5.out 1).trans rfl; have hf1 := blk_frozen BKc5.out 1; have hz2 : w5.cell? ⟨g4, 2, none⟩ = some (.slice none 0 0) := (blk_cell BKc5.out 2).trans rfl; have hf2 := blk_frozen BKc5.out 2; cases b1)
    · go_wp2
      obtain ⟨e1, e2, e3⟩ := store_curve (x := 0) (y := 0) (v := .slice none 0 0) HB5.out GE.out BKc5.out (Kd.R_nil _ _ _ _ _)
      obtain ⟨rfl, rfl, rfl, rfl⟩ : 0 = r1 ∧ 0 = r2 ∧ [] = r3 ∧ 2 = r4 := by have h := HJ.out; simpa using h
      refine bodyPost_ret (results_ct rfl _ _ g4 24 _ (0, 0) _ rfl e1 Try.underlying24 rfl (by kernel_rfl)) rfl ?_
      exact ⟨_, rfl, e2, e3⟩
    · have hl0 := L0.out (by first | trivial | rfl)
      have hl1 := L1.out (by first | trivial | rfl)
      have HL := Aside0.mk (And.intro hl0 hl1)
      clear hl0 hl1
      go_wp2_with (go_at_call 49; (with_reducible refine (concat_two w5.heap.size A0_2 A1_2 c0_2 c1_2 l0_2 l1_2 _ (blk_new _ _) (Kd.C_below HR0.out (below_alloc HB5.out _)) (Kd.C_below HR1.out (below_alloc HB5.out _)) (by have := HL.out; omega) (by have := HL.out; omega)).mono ?_); rintro e w6 ⟨v6, rfl, ho6, hb6⟩; rw [← HLL.out] at ho6; have hb56 := below_then (below_alloc (Below.refl w5.heap.size w5) (.cells #[.slice A0_2 l0_2.length c0_2, .slice A1_2 l1_2.length c1_2] 22)) (below_alloc (Below.refl w5.heap.size w5) _).size hb6; have HO6 := Aside0.mk (Kd.R_lower ho6 (Nat.le_trans HB5.out.size (below_alloc (Below.refl w5.heap.size w5) _).size)); have HB6 := Aside0.mk (below_then HB5.out HB5.out.size hb56); have BKa6 := Aside0.mk (blk_below BKa5.out hb56); have BKb6 := Aside0.mk (blk_below BKb5.out hb56); have BKc6 := Aside0.mk (blk_below BKc5.out hb56); clear ho6 hb6 hb56 HB5 BKa5 BKb5 BKc5 hx0 hx1 hx2 hy0 hy1 hy2 hz0 hz1 hz2 hf0 hf1 hf2; obtain ⟨A6, c6, e6⟩ := Kd.R_slice HO6.out; subst e6)
      have hsort := sort_own _ ll w.heap.size w6 HO6.out (by have := HL.out; rw [HLL.out, List.length_append]; omega)
      have HS := Aside0.mk hsort
      clear hsort
      go_wp2_with (go_at_call 50; (with_reducible refine HS.out.mono ?_); rintro e w7 ⟨rfl, ho7, hg7⟩; have HO7 := Aside0.mk ho7; have HB7 := Aside0.mk (HB6.out.grown hg7 HB6.out.size (fun k hk => Kd.R_base HO6.out k hk)); have BKa7 := Aside0.mk (blk_sort BKa6.out HO6.out hg7); have BKb7 := Aside0.mk (blk_sort BKb6.out HO6.out hg7); have BKc7 := Aside0.mk (blk_sort BKc6.out HO6.out hg7); clear ho7 hg7 HB6 BKa6 BKb6 BKc6 HS; have hx0 : w7.cell? ⟨g2, 0, none⟩ = some (.int .i64 a0_0) := (blk_cell BKa7.out 0).trans rfl; have hx1 : w7.cell? ⟨g2, 1, none⟩ = some (.int .i64 a0_1) := (blk_cell BKa7.out 1).trans rfl; have hx2 : w7.cell? ⟨g2, 2, none⟩ = some (.slice A0_2 l0_2.length c0_2) := (blk_cell BKa7.out 2).trans rfl; have hy0 : w7.cell? ⟨g3, 0, none⟩ = some (.int .i64 a1_0) := (blk_cell BKb7.out 0).trans rfl; have hy1 : w7.cell? ⟨g3, 1, none⟩ = some (.int .i64 a1_1) := (blk_cell BKb7.out 1).trans rfl; have hy2 : w7.cell? ⟨g3, 2, none⟩ = some (.slice A1_2 l1_2.length c1_2) := (blk_cell BKb7.out 2).trans rfl)
      have HM := Aside0.mk (show curve_made.f (wrap64 (a0_0 + a1_0)) (wrap64 (a0_1 + a1_1)) (sortL ll) = some (r1, r2, r3, r4) by
        have h := HJ.out
        rw [if_pos (by first | trivial | rfl)] at h
        unfold curve_made.f curve_Valid.f
        rw [Option.bind_some, ← h]
        cases validC (wrap64 (a0_0 + a1_0)) (wrap64 (a0_1 + a1_1)) (sortL ll) <;> rfl)
      have hlt4 := (Array.getElem?_eq_some_iff.1 BKc7.out).1
      have HLT := Aside0.mk hlt4
      clear hlt4
      go_wp2_with (go_at_call 51; (with_reducible refine (curve_made.calls _ _ (fun k_ => True ∧ k_ ≠ g4) _ (sortL ll) r1 r2 r3 r4 w w7 HB7.out (Kd.R_types HO7.out BKc7.out (by decide)) HM.out).mono ?_); rintro e w8 ⟨v8, rfl, ho8, hb8, hk8⟩; obtain ⟨A8, c8, e8⟩ := Kd.R_slice ho8; subst e8; have BKc8 := Aside0.mk ((hk8.2 g4 HLT.out (fun h => h.2 rfl)).trans BKc7.out); have HB8 := Aside0.mk hb8; have HR8 := Aside0.mk (Kd.R_mono (ok' := fun k_ => k_ ≠ g4) ho8 (fun k hk => by rcases hk with hk | hk; exact hk.2; have := HLT.out; omega)); clear ho8 hb8 hk8 hx0 hx1 hx2 hy0 hy1 hy2; have hz0 : w8.cell? ⟨g4, 0, none⟩ = some (.int .i64 0) := (blk_cell BKc8.out 0).trans rfl; have hf0 := blk_frozen BKc8.out 0; have hz1 : w8.cell? ⟨g4, 1, none⟩ = some (.int .i64 0) := (blk_cell BKc8.out 1).trans rfl; have hf1 := blk_frozen BKc8.out 1; have hz2 : w8.cell? ⟨g4, 2, none⟩ = some (.slice none 0 0) := (blk_cell BKc8.out 2).trans rfl; have hf2 := blk_frozen BKc8.out 2)
      obtain ⟨e1, e2, e3⟩ := store_curve (x := r1) (y := r2) HB8.out GE.out BKc8.out HR8.out
      refine bodyPost_ret (results_ct rfl _ _ g4 24 _ (0, 0) _ rfl e1 Try.underlying24 rfl (by kernel_rfl)) rfl ?_
      exact ⟨_, rfl, e2, e3⟩
end Go.Proofs.Ytingjpcgehgiiaa.Pr
end
section
namespace Go.Proofs.Ytingjpcgehgiiaa.Pr
open Go.RowKit Go.Shelf Go.Proofs.YtingjpcgehgiiaaW.PrintWords Go.Proofs.YtingjpcgehgiiaaW.PrintLast Go.Proofs.YtingjpcgehgiiaaW.PrintMore
attribute [local go_sem] Oper.semAt_some
set_option linter.unusedVariables false
set_option linter.unusedSimpArgs false
/-- What a round keeps: what lay below n, but for one block. -/
def Kq (n g : Nat) (W W' : World) : Prop := ∀ k, k < n → k ≠ g → W'.heap[k]? = W.heap[k]?
theorem Kq.refl (n g : Nat) (W : World) : Kq n g W W := fun _ _ _ => rfl
theorem Kq.trans {n g : Nat} {A B C : World} (h : Kq n g A B) (k : Kq n g B C) : Kq n g A C := fun i h1 h2 => (k i h1 h2).trans (h i h1 h2)
theorem Kq.cell {n g : Nat} {A B : World} (h : Kq n g A B) {p : Addr} (h1 : p.block < n) (h2 : p.block ≠ g) : B.cell? p = A.cell? p := by
  unfold World.cell?
  rw [h p.block h1 h2]
theorem add_block (ad : Addr) (i : Nat) : (ad.add i).block = ad.block := by
  unfold Addr.add
  first | rfl | (split <;> rfl)
end Go.Proofs.Ytingjpcgehgiiaa.Pr
end
section
namespace Go.Proofs.Ytingjpcgehgiiaa.Pr
open Go.RowKit Go.Proofs.YtingjpcgehgiiaaW.PrintWords Go.Proofs.YtingjpcgehgiiaaW.PrintLast Go.Proofs.YtingjpcgehgiiaaW.PrintMore
set_option linter.unusedVariables false
set_option linter.unusedSimpArgs false
theorem valC_eq (c : S24) (x : Int) : valC c x = c.f1 + tot (c.f2.take (x - c.f0).toNat) := rfl
end Go.Proofs.Ytingjpcgehgiiaa.Pr
end
section
namespace Go.Proofs.Ytingjpcgehgiiaa.Pr
open Go.RowKit Go.Proofs.YtingjpcgehgiiaaW.PrintWords Go.Proofs.YtingjpcgehgiiaaW.PrintLast Go.Proofs.YtingjpcgehgiiaaW.PrintMore
set_option linter.unusedVariables false
set_option linter.unusedSimpArgs false
theorem sortL_perm (l : List Int) : (sortL l).Perm l := List.mergeSort_perm l _
theorem sortL_pair (l : List Int) : (sortL l).Pairwise (· ≤ ·) := by
  have h := List.pairwise_mergeSort (le := fun x y : Int => decide (x ≤ y)) (fun a b c h1 h2 => by simp only [decide_eq_true_eq] at *; omega) (fun a b => by simp only [Bool.or_eq_true, decide_eq_true_eq]; omega) l
  unfold sortL
  exact h.imp fun h => by simpa using h
theorem sortedI_pair {l : List Int} (h : l.Pairwise (· ≤ ·)) : sortedI l = true := by
  unfold sortedI
  rw [sortedTo_iff]
  intro j hj
  rw [rd_nat l j (by omega), rd_nat l (j + 1) (by omega)]
  exact List.pairwise_iff_getElem.1 h j (j + 1) (by omega) (by omega) (by omega)
theorem sortL_sorted (l : List Int) : sortedI (sortL l) = true := sortedI_pair (sortL_pair l)
/-- The join. -/
def joinC (a b : S24) : S24 := ⟨a.f0 + b.f0, a.f1 + b.f1, sortL (a.f2 ++ b.f2)⟩
theorem joinC_len (a b : S24) : (joinC a b).f2.length = a.f2.length + b.f2.length := by
  unfold joinC
  rw [sortL_len, List.length_append]
theorem gC_join (a b : S24) (p : Int) : gC (joinC a b) p = gC a p + gC b p := by
  unfold gC joinC
  simp only
  rw [pos_perm p (sortL_perm _), pos_append, Int.mul_add]
  omega
theorem join_in {a b : S24} {x y : Int} (hx : inC a x) (hy : inC b y) : inC (joinC a b) (x + y) := by
  have h := joinC_len a b
  have e : (joinC a b).f0 = a.f0 + b.f0 := rfl
  obtain ⟨x1, x2⟩ := hx
  obtain ⟨y1, y2⟩ := hy
  unfold inC
  rw [h, e]
  push_cast
  omega
/-- A price at a number. -/
theorem price_at {c : S24} (hs : sortedI c.f2 = true) {x : Int} (hx : inC c x) : ∃ p, (∀ s ∈ c.f2.take (x - c.f0).toNat, s ≤ p) ∧ (∀ s ∈ c.f2.drop (x - c.f0).toNat, p ≤ s) := by
  obtain ⟨x1, x2⟩ := hx
  obtain ⟨k, hk⟩ := Int.eq_ofNat_of_zero_le (show 0 ≤ x - c.f0 by omega)
  rw [hk, Int.toNat_natCast]
  by_cases h : k < c.f2.length
  · refine ⟨rd c.f2 (k : Int), fun s h1 => ?_, fun s h1 => ?_⟩
    · obtain ⟨i, i1, i2, rfl⟩ := mem_take_rd h1
      exact sorted_rd hs (by omega) (by omega)
    · obtain ⟨i, i1, i2, rfl⟩ := mem_drop_rd h1
      exact sorted_rd hs (by omega) (by omega)
  · have e : k = c.f2.length := by omega
    by_cases h0 : k = 0
    · subst h0
      refine ⟨0, fun s h1 => by simp at h1, fun s h1 => ?_⟩
      rw [List.drop_of_length_le (by omega)] at h1
      simp at h1
    · refine ⟨rd c.f2 ((k - 1 : Nat) : Int), fun s h1 => ?_, fun s h1 => ?_⟩
      · obtain ⟨i, i1, i2, rfl⟩ := mem_take_rd h1
        exact sorted_rd hs (by omega) (by omega)
      · rw [List.drop_of_length_le (by omega)] at h1
        simp at h1
theorem join_le {a b : S24} {x y : Int} (hx : inC a x) (hy : inC b y) : valC (joinC a b) (x + y) ≤ valC a x + valC b y := by
  have hj := join_in hx hy
  obtain ⟨p, p1, p2⟩ := price_at (c := joinC a b) (sortL_sorted _) hj
  have h := young_eq hj p1 p2
  have h1 := young p hx
  have h2 := young p hy
  rw [gC_join, Int.mul_add] at h
  omega
/-- How many are below. -/
def cnt (p : Int) (l : List Int) : Nat := l.countP fun s => decide (s < p)
theorem cnt_none {p : Int} {l : List Int} (h : ∀ s ∈ l, p ≤ s) : cnt p l = 0 := by
  unfold cnt
  rw [List.countP_eq_zero]
  intro s hs
  have := h s hs
  simp only [decide_eq_true_eq]
  omega
theorem cnt_all {p : Int} {l : List Int} (h : ∀ s ∈ l, s < p) : cnt p l = l.length := by
  unfold cnt
  rw [List.countP_eq_length]
  intro s hs
  simpa using h s hs
theorem cnt_le (p : Int) (l : List Int) : cnt p l ≤ l.length := List.countP_le_length
theorem cnt_split (p : Int) (l : List Int) (k : Nat) : cnt p l = cnt p (l.take k) + cnt p (l.drop k) := by
  unfold cnt
  rw [← List.countP_append, List.take_append_drop]
theorem cnt_append (p : Int) (a b : List Int) : cnt p (a ++ b) = cnt p a + cnt p b := by
  unfold cnt
  rw [List.countP_append]
theorem cnt_perm (p : Int) {a b : List Int} (h : a.Perm b) : cnt p a = cnt p b := by
  unfold cnt
  exact h.countP_eq _
/-- In an ordered list the counts part it. -/
theorem cnt_parts {l : List Int} (h : sortedI l = true) (p : Int) : (∀ s ∈ l.take (cnt p l), s < p) ∧ (∀ s ∈ l.drop (cnt p l), p ≤ s) := by
  obtain ⟨k, h1, h2, h3⟩ := parts_at h p
  have e : cnt p l = k := by
    rw [cnt_split p l k, cnt_all h2, cnt_none h3, List.length_take]
    omega
  rw [e]
  exact ⟨h2, h3⟩
theorem join_met {a b : S24} (ha : sortedI a.f2 = true) (hb : sortedI b.f2 = true) {z : Int} (hz : inC (joinC a b) z) : ∃ x, inC a x ∧ inC b (z - x) ∧ valC a x + valC b (z - x) = valC (joinC a b) z := by
  obtain ⟨p, p1, p2⟩ := price_at (c := joinC a b) (sortL_sorted _) hz
  have h := young_eq hz p1 p2
  have hlen := joinC_len a b
  have e0 : (joinC a b).f0 = a.f0 + b.f0 := rfl
  obtain ⟨z1, z2⟩ := hz
  obtain ⟨k, hk⟩ := Int.eq_ofNat_of_zero_le (show 0 ≤ z - (joinC a b).f0 by omega)
  rw [hk, Int.toNat_natCast] at p1 p2
  have c1 : cnt p (joinC a b).f2 ≤ k := by
    have := cnt_le p ((joinC a b).f2.take k)
    rw [cnt_split p _ k, cnt_none p2]
    rw [List.length_take] at this
    omega
  have c2 : k ≤ cnt (p + 1) (joinC a b).f2 := by
    rw [cnt_split (p + 1) _ k, cnt_all (p := p + 1) (l := (joinC a b).f2.take k) (fun s hs => by have := p1 s hs; omega), List.length_take]
    omega
  have s1 : ∀ q, cnt q (joinC a b).f2 = cnt q a.f2 + cnt q b.f2 := fun q => by
    rw [← cnt_append]
    exact cnt_perm q (sortL_perm _)
  rw [s1] at c1 c2
  have la := cnt_le (p + 1) a.f2
  have lb := cnt_le (p + 1) b.f2
  obtain ⟨u1, u2⟩ := cnt_parts ha p
  obtain ⟨u3, u4⟩ := cnt_parts ha (p + 1)
  obtain ⟨v1, v2⟩ := cnt_parts hb p
  obtain ⟨v3, v4⟩ := cnt_parts hb (p + 1)
  have m1 : cnt p a.f2 ≤ cnt (p + 1) a.f2 := by
    unfold cnt
    exact List.countP_mono_left (fun x _ hx => by simp only [decide_eq_true_eq] at *; omega)
  have m2 : cnt p b.f2 ≤ cnt (p + 1) b.f2 := by
    unfold cnt
    exact List.countP_mono_left (fun x _ hx => by simp only [decide_eq_true_eq] at *; omega)
  obtain ⟨i, j, i1, i2, j1, j2, ij⟩ : ∃ i j, cnt p a.f2 ≤ i ∧ i ≤ cnt (p + 1) a.f2 ∧ cnt p b.f2 ≤ j ∧ j ≤ cnt (p + 1) b.f2 ∧ i + j = k := by
    by_cases hh : cnt p a.f2 + cnt (p + 1) b.f2 ≤ k
    · exact ⟨k - cnt (p + 1) b.f2, cnt (p + 1) b.f2, by omega, by omega, by omega, by omega, by omega⟩
    · exact ⟨cnt p a.f2, k - cnt p a.f2, by omega, by omega, by omega, by omega, by omega⟩
  have ta : ∀ s ∈ a.f2.take i, s ≤ p := fun s hs => by
    obtain ⟨n, n1, n2, rfl⟩ := mem_take_rd hs
    have := u3 _ (rd_mem_take (k := cnt (p + 1) a.f2) (by omega) n2)
    omega
  have da : ∀ s ∈ a.f2.drop i, p ≤ s := fun s hs => by
    obtain ⟨n, n1, n2, rfl⟩ := mem_drop_rd hs
    exact u2 _ (rd_mem_drop (k := cnt p a.f2) (by omega) n2)
  have tb : ∀ s ∈ b.f2.take j, s ≤ p := fun s hs => by
    obtain ⟨n, n1, n2, rfl⟩ := mem_take_rd hs
    have := v3 _ (rd_mem_take (k := cnt (p + 1) b.f2) (by omega) n2)
    omega
  have db : ∀ s ∈ b.f2.drop j, p ≤ s := fun s hs => by
    obtain ⟨n, n1, n2, rfl⟩ := mem_drop_rd hs
    exact v2 _ (rd_mem_drop (k := cnt p b.f2) (by omega) n2)
  have ina : inC a (a.f0 + (i : Int)) := ⟨by omega, by omega⟩
  have inb : inC b (z - (a.f0 + (i : Int))) := ⟨by omega, by omega⟩
  have ea : (a.f0 + (i : Int) - a.f0).toNat = i := by omega
  have eb : (z - (a.f0 + (i : Int)) - b.f0).toNat = j := by omega
  have g1 := young_eq ina (p := p) (by rw [ea]; exact ta) (by rw [ea]; exact da)
  have g2 := young_eq inb (p := p) (by rw [eb]; exact tb) (by rw [eb]; exact db)
  refine ⟨_, ina, inb, ?_⟩
  rw [gC_join] at h
  rw [Int.mul_sub] at g2
  omega
end Go.Proofs.Ytingjpcgehgiiaa.Pr
end
section
namespace Go.Proofs.Ytingjpcgehgiiaa.Pr
open Go.RowKit Go.Proofs.YtingjpcgehgiiaaW.PrintWords Go.Proofs.YtingjpcgehgiiaaW.PrintLast Go.Proofs.YtingjpcgehgiiaaW.PrintMore
set_option linter.unusedVariables false
set_option linter.unusedSimpArgs false
/-- What Conj returns. -/
def conOk (c : S24) (lo hi : Int) : Prop := Vc c ∧ -1048576 ≤ lo ∧ lo ≤ hi ∧ hi ≤ lo + 64 ∧ hi ≤ 1048576
instance (c : S24) (lo hi : Int) : Decidable (conOk c lo hi) := inferInstanceAs (Decidable (_ ∧ _))
end Go.Proofs.Ytingjpcgehgiiaa.Pr
end
section
namespace Go.Proofs.Ytingjpcgehgiiaa.Pr
open Go.RowKit Go.Proofs.YtingjpcgehgiiaaW.PrintWords Go.Proofs.YtingjpcgehgiiaaW.PrintLast Go.Proofs.YtingjpcgehgiiaaW.PrintMore
set_option linter.unusedVariables false
set_option linter.unusedSimpArgs false
theorem succ_w64 {i : Nat} (h : i ≤ 9223372036854775806) : wrap64 ((i : Int) + 1) = ((i + 1 : Nat) : Int) := by unfold wrap64; omega
theorem pred_w64 {i : Nat} (h : i ≤ 9223372036854775806) : wrap64 (((i + 1 : Nat) : Int) - 1) = (i : Int) := by unfold wrap64; omega
theorem same_loop (l : List Int) (hn : l.length ≤ 9223372036854775807) : ∀ (d i : Nat), l.length - i = d → Ev (fun k => kimberlitelaw03_same.l0 k l l (i : Int)) true
  | 0, i, h => Ev.step (f := fun _ => some true) (fun k => by simp only [kimberlitelaw03_same.l0]; rw [if_neg (by omega)]) (Ev.now _)
  | d + 1, i, h => by
    have ew : wrap64 ((i : Int) + 1) = ((i + 1 : Nat) : Int) := by unfold wrap64; omega
    refine Ev.step (fun k => ?_) (same_loop l hn d (i + 1) (by omega))
    simp only [kimberlitelaw03_same.l0]
    rw [if_pos (show (i : Int) < (l.length : Int) by omega), if_pos (show 0 ≤ (i : Int) by omega), if_pos (show (i : Int) < (l.length : Int) by omega), if_pos trivial, ew]
theorem same_ev (l : List Int) (hn : l.length ≤ 9223372036854775807) : Ev (fun k => kimberlitelaw03_same.f k l l) true := by
  unfold kimberlitelaw03_same.f
  exact Ev.congr (fun k => if_pos rfl) (same_loop l hn _ 0 rfl)
theorem Ev.two {α : Type} {g f : Nat → Option α} {r : α} (h : ∀ k, g (k + 2) = f k) (k : Ev f r) : Ev g r := by
  obtain ⟨K, hK⟩ := k
  refine ⟨K + 2, fun n hn => ?_⟩
  obtain ⟨m, rfl⟩ : ∃ m, n = m + 2 := ⟨n - 2, by omega⟩
  rw [h]
  exact hK m (by omega)
end Go.Proofs.Ytingjpcgehgiiaa.Pr
end
