/- What the proof of the law needs, trimmed and merged by wip/pack.py out of the texts YtingjpcgehgiiaaPrx1, YtingjpcgehgiiaaExtVal, YtingjpcgehgiiaaExtSpl, YtingjpcgehgiiaaExtAt, YtingjpcgehgiiaaSpl, YtingjpcgehgiiaaSpq, YtingjpcgehgiiaaCrv, YtingjpcgehgiiaaPrx2, YtingjpcgehgiiaaPrx3. No condition. -/
import Derived.Shelf.Abstract
import Derived.Test.YtingjpcgehgiiaaKCurveConvex0
section
namespace Go.Proofs.Ytingjpcgehgiiaa.Pr
open Go.RowKit Go.Proofs.YtingjpcgehgiiaaW.PrintWords Go.Proofs.YtingjpcgehgiiaaW.PrintLast Go.Proofs.YtingjpcgehgiiaaW.PrintMore
attribute [local go_sem] max2_int min2_int max_two min_two max_three min_three max_four min_four   -- for this text's walks alone
set_option linter.unusedVariables false
set_option linter.unusedSimpArgs false
def curve_within.f (a0 : Int) (a1 : Int) : Option (Bool) := if a0 ≥ (wrap64 (-a1)) then (some (decide (a0 ≤ a1))) else (some false)
set_option maxHeartbeats 8000000 in
set_option maxRecDepth 100000 in
theorem curve_within.calls (a0 : Int) (a1 : Int) (r : Bool) (w : World) (h : curve_within.f a0 a1 = some r) :
 Calls Try.prog 52 #[.int .i64 a0, .int .i64 a1] w fun e w' => e = .returned (.bool r) ∧ Drawn0 w w' := by
 have H : (if a0 ≥ (wrap64 (-a1)) then (some (decide (a0 ≤ a1))) else (some false)) = some r := h
 clear h
 by_cases c3 : a0 ≥ (wrap64 (-a1))
 · rw [if_pos c3] at H
   have c3b0 : decide ((wrap64 (-a1)) ≤ a0) = true := decide_eq_true c3
   clear c3
   obtain rfl := Option.some.inj H
   go_enter Try.func52, Try.ntmps52
   go_wp2
   go_ret
   exact ⟨by first | rfl | (simp; done) | (simp [*]; done), by repeat (first | exact Drawn0.refl _ | apply Drawn0.step)⟩
 · rw [if_neg c3] at H
   have c3b0 : decide ((wrap64 (-a1)) ≤ a0) = false := decide_eq_false c3
   clear c3
   obtain rfl := Option.some.inj H
   go_enter Try.func52, Try.ntmps52
   go_wp2
   go_ret
   exact ⟨by first | rfl | (simp; done) | (simp [*]; done), by repeat (first | exact Drawn0.refl _ | apply Drawn0.step)⟩
def cmp_isNaN_int.f (a0 : Int) : Option (Bool) := some (a0 != a0)
set_option maxHeartbeats 8000000 in
set_option maxRecDepth 100000 in
theorem cmp_isNaN_int.calls (a0 : Int) (r : Bool) (w : World) (h : cmp_isNaN_int.f a0 = some r) :
 Calls Try.prog 98 #[.int .i64 a0] w fun e w' => e = .returned (.bool r) ∧ Drawn0 w w' := by
 have H : (some (a0 != a0)) = some r := h
 clear h
 obtain rfl := Option.some.inj H
 go_enter Try.func98, Try.ntmps98
 go_wp2
 go_ret
 exact ⟨by first | rfl | (simp; done) | (simp [*]; done), by repeat (first | exact Drawn0.refl _ | apply Drawn0.step)⟩
def cmp_Less_int.f (a0 : Int) (a1 : Int) : Option (Bool) := (cmp_isNaN_int.f a0).bind fun t101 => (if t101 = true then ((cmp_isNaN_int.f a1).bind fun t102 => (if t102 = true then (some (decide (a0 < a1))) else (some true))) else (some (decide (a0 < a1))))
set_option maxHeartbeats 8000000 in
set_option maxRecDepth 100000 in
theorem cmp_Less_int.calls (a0 : Int) (a1 : Int) (r : Bool) (w : World) (h : cmp_Less_int.f a0 a1 = some r) :
 Calls Try.prog 82 #[.int .i64 a0, .int .i64 a1] w fun e w' => e = .returned (.bool r) ∧ Drawn0 w w' := by
 have H : ((cmp_isNaN_int.f a0).bind fun t101 => (if t101 = true then ((cmp_isNaN_int.f a1).bind fun t102 => (if t102 = true then (some (decide (a0 < a1))) else (some true))) else (some (decide (a0 < a1))))) = some r := h
 clear h
 replace H := Option.bind_eq_some_iff.mp H
 obtain ⟨t101, A30, H⟩ := H
 replace H : (if t101 = true then ((cmp_isNaN_int.f a1).bind fun t102 => (if t102 = true then (some (decide (a0 < a1))) else (some true))) else (some (decide (a0 < a1)))) = some r := H
 have A3 := Aside0.mk A30
 clear A30
 by_cases c4 : t101 = true
 · subst c4
   have H1 : ((cmp_isNaN_int.f a1).bind fun t102 => (if t102 = true then (some (decide (a0 < a1))) else (some true))) = some r := by rw [if_pos rfl] at H; exact H
   clear H
   have H := H1
   clear H1
   replace H := Option.bind_eq_some_iff.mp H
   obtain ⟨t102, A50, H⟩ := H
   replace H : (if t102 = true then (some (decide (a0 < a1))) else (some true)) = some r := H
   have A5 := Aside0.mk A50
   clear A50
   by_cases c6 : t102 = true
   · subst c6
     have H1 : (some (decide (a0 < a1))) = some r := by rw [if_pos rfl] at H; exact H
     clear H
     have H := H1
     clear H1
     obtain rfl := Option.some.inj H
     go_enter Try.func82, Try.ntmps82
     go_wp2_with (first | ((with_reducible refine gate_callee (f := 98) rfl ?_); refine goesL_ (some 6) rfl rfl Try.func98 (by kernel_rfl) rfl #[.int .i64 a0] rfl (by (try simp only [List.map_toArray, List.map_cons, List.map_nil]); first | done | rfl | (simp only [List.length_drop, List.length_take]; rfl)) ?_; (with_reducible refine (cmp_isNaN_int.calls a0 true _ A3.out).mono ?_); rintro e w' ⟨rfl, ⟨nd, rfl⟩⟩; refine ⟨_, rfl, ?_⟩) | (go_at_call 98; (with_reducible refine (cmp_isNaN_int.calls a1 true _ A5.out).mono ?_); rintro e w' ⟨rfl, ⟨nd, rfl⟩⟩))
     go_ret
     exact ⟨by first | rfl | (simp; done) | (simp [*]; done), by repeat (first | exact Drawn0.refl _ | apply Drawn0.step)⟩
   · replace c6 := Bool.eq_false_iff.mpr c6
     subst c6
     have H1 : (some true) = some r := by rw [if_neg (show ¬ (false = true) by decide)] at H; exact H
     clear H
     have H := H1
     clear H1
     obtain rfl := Option.some.inj H
     go_enter Try.func82, Try.ntmps82
     go_wp2_with (first | ((with_reducible refine gate_callee (f := 98) rfl ?_); refine goesL_ (some 6) rfl rfl Try.func98 (by kernel_rfl) rfl #[.int .i64 a0] rfl (by (try simp only [List.map_toArray, List.map_cons, List.map_nil]); first | done | rfl | (simp only [List.length_drop, List.length_take]; rfl)) ?_; (with_reducible refine (cmp_isNaN_int.calls a0 true _ A3.out).mono ?_); rintro e w' ⟨rfl, ⟨nd, rfl⟩⟩; refine ⟨_, rfl, ?_⟩) | (go_at_call 98; (with_reducible refine (cmp_isNaN_int.calls a1 false _ A5.out).mono ?_); rintro e w' ⟨rfl, ⟨nd, rfl⟩⟩))
     go_ret
     exact ⟨by first | rfl | (simp; done) | (simp [*]; done), by repeat (first | exact Drawn0.refl _ | apply Drawn0.step)⟩
 · replace c4 := Bool.eq_false_iff.mpr c4
   subst c4
   have H1 : (some (decide (a0 < a1))) = some r := by rw [if_neg (show ¬ (false = true) by decide)] at H; exact H
   clear H
   have H := H1
   clear H1
   obtain rfl := Option.some.inj H
   go_enter Try.func82, Try.ntmps82
   go_wp2_with (first | ((with_reducible refine gate_callee (f := 98) rfl ?_); refine goesL_ (some 6) rfl rfl Try.func98 (by kernel_rfl) rfl #[.int .i64 a0] rfl (by (try simp only [List.map_toArray, List.map_cons, List.map_nil]); first | done | rfl | (simp only [List.length_drop, List.length_take]; rfl)) ?_; (with_reducible refine (cmp_isNaN_int.calls a0 false _ A3.out).mono ?_); rintro e w' ⟨rfl, ⟨nd, rfl⟩⟩; refine ⟨_, rfl, ?_⟩))
   go_ret
   exact ⟨by first | rfl | (simp; done) | (simp [*]; done), by repeat (first | exact Drawn0.refl _ | apply Drawn0.step)⟩
def slices_IsSorted_int_int.l0 : Nat → List Int → Int → Option (Bool)
 | 0, _, _ => none
 | k + 1, x0, x3 => if x3 > 0 then (if 0 ≤ x3 then (if x3 < (x0.length : Int) then (if 0 ≤ (wrap64 (x3 - 1)) then (if (wrap64 (x3 - 1)) < (x0.length : Int) then ((cmp_Less_int.f (rd x0 x3) (rd x0 (wrap64 (x3 - 1)))).bind fun t105 => (if t105 = true then (some false) else (slices_IsSorted_int_int.l0 k x0 (wrap64 (x3 - 1))))) else (none)) else (none)) else (none)) else (none)) else (some true)
def slices_IsSorted_int_int.f (k : Nat) (l0 : List Int) : Option (Bool) := slices_IsSorted_int_int.l0 k l0 (wrap64 ((l0.length : Int) - 1))
theorem slices_IsSorted_int_int.mono_l : ∀ k, (∀ y0 y1, LeO (slices_IsSorted_int_int.l0 k y0 y1) (slices_IsSorted_int_int.l0 (k + 1) y0 y1))
 | 0 => fun _ _ r h => by simp [slices_IsSorted_int_int.l0] at h
 | k + 1 => by
  have ih0 := slices_IsSorted_int_int.mono_l k
  · intro y0 y1
    unfold slices_IsSorted_int_int.l0
    repeat' first
    | (with_reducible exact ih0 _ _)
    | (with_reducible exact LeO.refl _)
    | (with_reducible exact LeO.none _)
    | (with_reducible refine LeO.ite ?_ ?_)
    | (with_reducible refine LeO.bind ?_ (fun _ => ?_))
    | exact ih0 _ _
    | exact LeO.none _
    | refine LeO.ite ?_ ?_
    | refine LeO.bind ?_ (fun _ => ?_)
theorem slices_IsSorted_int_int.mono : ∀ a0 k, LeO (slices_IsSorted_int_int.f k a0) (slices_IsSorted_int_int.f (k + 1) a0) := by
 intro a0 k
 have ih0 := slices_IsSorted_int_int.mono_l k
 unfold slices_IsSorted_int_int.f
 repeat' first
  | (with_reducible exact ih0 _ _)
  | (with_reducible exact LeO.refl _)
  | (with_reducible exact LeO.none _)
  | (with_reducible refine LeO.ite ?_ ?_)
  | (with_reducible refine LeO.bind ?_ (fun _ => ?_))
  | exact ih0 _ _
  | exact LeO.none _
  | refine LeO.ite ?_ ?_
  | refine LeO.bind ?_ (fun _ => ?_)
set_option maxHeartbeats 8000000 in
set_option maxRecDepth 100000 in
theorem slices_IsSorted_int_int.calls (k : Nat) (A0 : Option Addr) (c0 : Nat) (l0 : List Int) (r : Bool) (w : World) (hr0 : Kd.C (Kd.int .i64) w A0 l0.length l0) (hc0 : l0.length ≤ c0) (h : slices_IsSorted_int_int.f k l0 = some r) :
 Calls Try.prog 53 #[.slice A0 l0.length c0] w fun e w' => e = .returned (.bool r) ∧ Drawn0 w w' := by
 have HR0 := Aside0.mk hr0
 have HC0 := Aside0.mk hc0
 clear hr0 hc0
 have H : (slices_IsSorted_int_int.l0 k l0 (wrap64 ((l0.length : Int) - 1))) = some r := h
 clear h
 have H' := Aside0.mk H
 clear H
 go_enter Try.func53, Try.ntmps53
 go_wp2
 repeat (go_quiet (fail); try go_wp2)
 go_loopg [3] k (fun kq v3 w' => ∃ (x3_1 : Int), v3 = .int .i64 x3_1 ∧ Aside0 (slices_IsSorted_int_int.l0 kq l0 x3_1 = some r) ∧ Aside0 (kq ≤ k) ∧ Drawn0 w w')
 case atStart => exact ⟨(wrap64 ((l0.length : Int) - 1)), (by first | rfl | (simp; done) | (simp [*]; done)), H', ⟨Nat.le_refl _⟩, by repeat (first | exact Drawn0.refl _ | apply Drawn0.step)⟩
 case round =>
  clear H'
  obtain ⟨x3_1, rfl, HA, HK1, ⟨m1, rfl⟩⟩ := hrel
  cases gk with
  | zero => exact absurd HA.out (by simp [slices_IsSorted_int_int.l0])
  | succ k1 =>
   have H := HA.out
   clear HA
   simp only [slices_IsSorted_int_int.l0] at H
   by_cases c2 : x3_1 > 0
   · rw [if_pos c2] at H
     have c2b0 : decide (0 < x3_1) = true := decide_eq_true c2
     clear c2
     by_cases c3 : 0 ≤ x3_1
     · rw [if_pos c3] at H
       have c3b0 : decide (0 ≤ x3_1) = true := decide_eq_true c3
       clear c3
       by_cases c4 : x3_1 < (l0.length : Int)
       · rw [if_pos c4] at H
         have c4b0 : decide (x3_1 < (l0.length : Int)) = true := decide_eq_true c4
         clear c4
         obtain ⟨ji5, hji5⟩ : ∃ j_ : Int, (wrap64 (x3_1 - 1)) = j_ := ⟨_, rfl⟩
         replace H : (if 0 ≤ (ji5) then (if (ji5) < (l0.length : Int) then ((cmp_Less_int.f (rd l0 x3_1) (rd l0 (ji5))).bind fun t105 => (if t105 = true then (some false) else (slices_IsSorted_int_int.l0 k1 l0 ji5))) else (none)) else (none)) = some r := by first | (rw [hji5] at H; exact H) | (simp only [hji5] at H ⊢; exact H)
         have hji5w : (IntKind.i64.wrap (x3_1 - 1)) = ji5 := (i64_w _).trans hji5
         by_cases c6 : 0 ≤ (ji5)
         · rw [if_pos c6] at H
           have c6b0 : decide (0 ≤ (ji5)) = true := decide_eq_true c6
           clear c6
           by_cases c7 : (ji5) < (l0.length : Int)
           · rw [if_pos c7] at H
             have c7b0 : decide ((ji5) < (l0.length : Int)) = true := decide_eq_true c7
             clear c7
             replace H := Option.bind_eq_some_iff.mp H
             obtain ⟨t105, A80, H⟩ := H
             replace H : (if t105 = true then (some false) else (slices_IsSorted_int_int.l0 k1 l0 ji5)) = some r := H
             have A8 := Aside0.mk A80
             clear A80
             by_cases c9 : t105 = true
             · subst c9
               have H1 : (some false) = some r := by rw [if_pos rfl] at H; exact H
               clear H
               have H := H1
               clear H1
               obtain rfl := Option.some.inj H
               have p103 : 0 ≤ (x3_1 : Int) := of_decide_eq_true (by first | (with_reducible assumption) | assumption)
               have q103 : x3_1 < (l0.length : Int) := of_decide_eq_true (by first | (with_reducible assumption) | assumption)
               obtain ⟨ad103, e103, hx103_0⟩ := Kd.at_int HR0.out x3_1 p103 q103
               cases e103
               replace p103 := eq_true p103
               replace q103 := eq_true q103
               have p104 : 0 ≤ ((ji5) : Int) := of_decide_eq_true (by first | (with_reducible assumption) | assumption)
               have q104 : (ji5) < (l0.length : Int) := of_decide_eq_true (by first | (with_reducible assumption) | assumption)
               obtain ⟨ad104, e104, hx104_0⟩ := Kd.at_int HR0.out (ji5) p104 q104
               obtain rfl : ad103 = ad104 := (by injection e104)
               replace p104 := eq_true p104
               replace q104 := eq_true q104
               go_wp2_with (first | (go_at_call 82; (with_reducible refine (cmp_Less_int.calls (rd l0 x3_1) (rd l0 (ji5)) true _ A8.out).mono ?_); rintro e w' ⟨rfl, ⟨nd, rfl⟩⟩; (try first | exact ⟨rfl, _, World.drewN_drewN _ _ _⟩ | exact ⟨rfl, _, Eq.trans (World.drewN_drewN _ _ _) (congrArg (World.drewN _) (Nat.add_assoc _ _ _))⟩)))
               repeat (go_quiet (first | (go_at_call 82; (with_reducible refine (cmp_Less_int.calls (rd l0 x3_1) (rd l0 (ji5)) true _ A8.out).mono ?_); rintro e w' ⟨rfl, ⟨nd, rfl⟩⟩; (try first | exact ⟨rfl, _, World.drewN_drewN _ _ _⟩ | exact ⟨rfl, _, Eq.trans (World.drewN_drewN _ _ _) (congrArg (World.drewN _) (Nat.add_assoc _ _ _))⟩))); try go_wp2_with (first | (go_at_call 82; (with_reducible refine (cmp_Less_int.calls (rd l0 x3_1) (rd l0 (ji5)) true _ A8.out).mono ?_); rintro e w' ⟨rfl, ⟨nd, rfl⟩⟩; (try first | exact ⟨rfl, _, World.drewN_drewN _ _ _⟩ | exact ⟨rfl, _, Eq.trans (World.drewN_drewN _ _ _) (congrArg (World.drewN _) (Nat.add_assoc _ _ _))⟩))))
               go_ret
               exact ⟨by first | rfl | (simp; done) | (simp only [← hji5] <;> (first | rfl | simp)) | (simp [*]; done), by repeat (first | exact Drawn0.refl _ | apply Drawn0.step)⟩
             · replace c9 := Bool.eq_false_iff.mpr c9
               subst c9
               have H1 : (slices_IsSorted_int_int.l0 k1 l0 ji5) = some r := by rw [if_neg (show ¬ (false = true) by decide)] at H; exact H
               clear H
               have H := H1
               clear H1
               have H' := Aside0.mk H
               clear H
               have p103 : 0 ≤ (x3_1 : Int) := of_decide_eq_true (by first | (with_reducible assumption) | assumption)
               have q103 : x3_1 < (l0.length : Int) := of_decide_eq_true (by first | (with_reducible assumption) | assumption)
               obtain ⟨ad103, e103, hx103_0⟩ := Kd.at_int HR0.out x3_1 p103 q103
               cases e103
               replace p103 := eq_true p103
               replace q103 := eq_true q103
               have p104 : 0 ≤ ((ji5) : Int) := of_decide_eq_true (by first | (with_reducible assumption) | assumption)
               have q104 : (ji5) < (l0.length : Int) := of_decide_eq_true (by first | (with_reducible assumption) | assumption)
               obtain ⟨ad104, e104, hx104_0⟩ := Kd.at_int HR0.out (ji5) p104 q104
               obtain rfl : ad103 = ad104 := (by injection e104)
               replace p104 := eq_true p104
               replace q104 := eq_true q104
               go_wp2_with (first | (go_at_call 82; (with_reducible refine (cmp_Less_int.calls (rd l0 x3_1) (rd l0 (ji5)) false _ A8.out).mono ?_); rintro e w' ⟨rfl, ⟨nd, rfl⟩⟩; (try first | exact ⟨rfl, _, World.drewN_drewN _ _ _⟩ | exact ⟨rfl, _, Eq.trans (World.drewN_drewN _ _ _) (congrArg (World.drewN _) (Nat.add_assoc _ _ _))⟩)))
               repeat (go_quiet (first | (go_at_call 82; (with_reducible refine (cmp_Less_int.calls (rd l0 x3_1) (rd l0 (ji5)) false _ A8.out).mono ?_); rintro e w' ⟨rfl, ⟨nd, rfl⟩⟩; (try first | exact ⟨rfl, _, World.drewN_drewN _ _ _⟩ | exact ⟨rfl, _, Eq.trans (World.drewN_drewN _ _ _) (congrArg (World.drewN _) (Nat.add_assoc _ _ _))⟩))); try go_wp2_with (first | (go_at_call 82; (with_reducible refine (cmp_Less_int.calls (rd l0 x3_1) (rd l0 (ji5)) false _ A8.out).mono ?_); rintro e w' ⟨rfl, ⟨nd, rfl⟩⟩; (try first | exact ⟨rfl, _, World.drewN_drewN _ _ _⟩ | exact ⟨rfl, _, Eq.trans (World.drewN_drewN _ _ _) (congrArg (World.drewN _) (Nat.add_assoc _ _ _))⟩))))
               go_roundg k1
               case measure => have := HK1.out; omega
               case rel => exact ⟨(ji5), (by first | rfl | (simp; done) | (simp only [← hji5] <;> (first | rfl | simp)) | (simp [*]; done)), H', ⟨by have := HK1.out; omega⟩, by repeat (first | exact Drawn0.refl _ | apply Drawn0.step)⟩
           · rw [if_neg c7] at H
             exact absurd H (by simp)
         · rw [if_neg c6] at H
           exact absurd H (by simp)
       · rw [if_neg c4] at H
         exact absurd H (by simp)
     · rw [if_neg c3] at H
       exact absurd H (by simp)
   · rw [if_neg c2] at H
     have c2b0 : decide (0 < x3_1) = false := decide_eq_false c2
     clear c2
     obtain rfl := Option.some.inj H
     go_wp2
     repeat (go_quiet (fail); try go_wp2)
     go_ret
     exact ⟨by first | rfl | (simp; done) | (simp [*]; done), by repeat (first | exact Drawn0.refl _ | apply Drawn0.step)⟩
def curve_to.f (a0_0 : Int) (a0_1 : Int) (l0_2 : List Int) : Option (Int) := some (wrap64 (a0_0 + (l0_2.length : Int)))
set_option maxHeartbeats 8000000 in
set_option maxRecDepth 100000 in
theorem curve_to.calls (a0_0 : Int) (a0_1 : Int) (A0_2 : Option Addr) (c0_2 : Nat) (l0_2 : List Int) (r : Int) (w : World) (hr0_2 : Kd.C (Kd.int .i64) w A0_2 l0_2.length l0_2) (hc0_2 : l0_2.length ≤ c0_2) (h : curve_to.f a0_0 a0_1 l0_2 = some r) :
 Calls Try.prog 58 #[.agg #[.int .i64 a0_0, .int .i64 a0_1, .slice A0_2 l0_2.length c0_2]] w fun e w' => e = .returned (.int .i64 r) ∧ Below w.heap.size w w' := by
 have hu24 := Try.underlying24
 have HR0_2 := Aside0.mk hr0_2
 have HC0_2 := Aside0.mk hc0_2
 clear hr0_2 hc0_2
 have HB := Aside0.mk (Below.refl w.heap.size w)
 have H : (some (wrap64 (a0_0 + (l0_2.length : Int)))) = some r := h
 clear h
 obtain rfl := Option.some.inj H
 go_enter Try.func58, Try.ntmps58
 go_wp2_with (first | ((with_reducible refine gate_dst (N := 1) rfl ?_); refine box_event ?hg (N := 1) ?hd (cs := #[.int .i64 a0_0, .int .i64 a0_1, .slice A0_2 l0_2.length c0_2]) (t := 24) ?hr ?_; (case hd => rfl); (case hg => rfl); (case hr => first | (go_simp; done) | (go_simp; rfl)); intro gb106 hg w2 hbox hb; have n0_ := Aside0.mk (below_step (by repeat (first | (with_reducible first | exact HB.out | apply below_alloc | apply pw_below_drewN | apply below_drew1) | exact HB.out)) hb); have n1_ := Aside0.mk (hbox); have n2_ := Aside0.mk ((by rw [hg]; exact (below_size (by repeat (first | (with_reducible first | exact HB.out | apply below_alloc | apply pw_below_drewN | apply below_drew1) | exact HB.out))) : w.heap.size ≤ gb106)); have n3_ := Aside0.mk ((by rw [hg]; exact (below_size (by repeat (first | (with_reducible first | exact HB.out | apply below_alloc | apply pw_below_drewN | apply below_drew1) | exact HB.out))) : w.heap.size ≤ gb106)); clear HB; have HB := n0_; have BK106 := n1_; have GW106 := n2_; have GE106 := n3_; clear n0_ n1_ n2_ n3_; clear hb hbox hg; have hcz3_0 : w2.cell? ⟨gb106, 0, none⟩ = some (.int .i64 a0_0) := (blk_cell BK106.out 0).trans rfl; have hcz3_1 : w2.cell? ⟨gb106, 1, none⟩ = some (.int .i64 a0_1) := (blk_cell BK106.out 1).trans rfl; have hcz3_2 : w2.cell? ⟨gb106, 2, none⟩ = some (.slice A0_2 l0_2.length c0_2) := (blk_cell BK106.out 2).trans rfl; have hfz3_0 := blk_frozen BK106.out 0; have hfz3_1 := blk_frozen BK106.out 1; have hfz3_2 := blk_frozen BK106.out 2))
 go_ret
 exact ⟨by first | rfl | (simp [errW_none, errW_some] <;> rfl) | (simp [*, errW_none, errW_some] <;> rfl), by repeat (first | (with_reducible first | exact HB.out | apply below_alloc | apply pw_below_drewN | apply below_drew1 | refine below_set ?_ GE106.out) | exact HB.out)⟩
def curve_prices.j0 : Nat → Int → Int → Int → Int → Int → List Int → Option (Int × Int)
 | 0, _, _, _, _, _, _ => none
 | k + 1, x1, x6, x7, x108000, x108001, x108002 => if (wrap64 (x1 - x108000)) < (x108002.length : Int) then (if 0 ≤ (wrap64 (x1 - x108000)) then (some (x6, rd x108002 (wrap64 (x1 - x108000)))) else (none)) else (some (x6, x7))
def curve_prices.f (k : Nat) (a0_0 : Int) (a0_1 : Int) (l0_2 : List Int) (a1 : Int) : Option (Int × Int) := if (wrap64 (a1 - a0_0)) > 0 then (if 0 ≤ (wrap64 ((wrap64 (a1 - a0_0)) - 1)) then (if (wrap64 ((wrap64 (a1 - a0_0)) - 1)) < (l0_2.length : Int) then (curve_prices.j0 k a1 (rd l0_2 (wrap64 ((wrap64 (a1 - a0_0)) - 1))) 1048576 a0_0 a0_1 l0_2) else (none)) else (none)) else (curve_prices.j0 k a1 (-1048576) 1048576 a0_0 a0_1 l0_2)
theorem curve_prices.mono_l : ∀ k, (∀ y0 y1 y2 y3 y4 y5, LeO (curve_prices.j0 k y0 y1 y2 y3 y4 y5) (curve_prices.j0 (k + 1) y0 y1 y2 y3 y4 y5))
 | 0 => fun _ _ _ _ _ _ r h => by simp [curve_prices.j0] at h
 | k + 1 => by
  have ih0 := curve_prices.mono_l k
  · intro y0 y1 y2 y3 y4 y5
    unfold curve_prices.j0
    repeat' first
    | (with_reducible exact ih0 _ _ _ _ _ _)
    | (with_reducible exact LeO.refl _)
    | (with_reducible exact LeO.none _)
    | (with_reducible refine LeO.ite ?_ ?_)
    | (with_reducible refine LeO.bind ?_ (fun _ => ?_))
    | exact ih0 _ _ _ _ _ _
    | exact LeO.none _
    | refine LeO.ite ?_ ?_
    | refine LeO.bind ?_ (fun _ => ?_)
theorem curve_prices.mono : ∀ a0 a1 a2 a3 k, LeO (curve_prices.f k a0 a1 a2 a3) (curve_prices.f (k + 1) a0 a1 a2 a3) := by
 intro a0 a1 a2 a3 k
 have ih0 := curve_prices.mono_l k
 unfold curve_prices.f
 repeat' first
  | (with_reducible exact ih0 _ _ _ _ _ _)
  | (with_reducible exact LeO.refl _)
  | (with_reducible exact LeO.none _)
  | (with_reducible refine LeO.ite ?_ ?_)
  | (with_reducible refine LeO.bind ?_ (fun _ => ?_))
  | exact ih0 _ _ _ _ _ _
  | exact LeO.none _
  | refine LeO.ite ?_ ?_
  | refine LeO.bind ?_ (fun _ => ?_)
set_option maxHeartbeats 8000000 in
set_option maxRecDepth 100000 in
theorem curve_prices.calls (k : Nat) (a0_0 : Int) (a0_1 : Int) (A0_2 : Option Addr) (c0_2 : Nat) (l0_2 : List Int) (a1 : Int) (r1 : Int) (r2 : Int) (w : World) (hr0_2 : Kd.C (Kd.int .i64) w A0_2 l0_2.length l0_2) (hc0_2 : l0_2.length ≤ c0_2) (h : curve_prices.f k a0_0 a0_1 l0_2 a1 = some (r1, r2)) :
 Calls Try.prog 62 #[.agg #[.int .i64 a0_0, .int .i64 a0_1, .slice A0_2 l0_2.length c0_2], .int .i64 a1] w fun e w' => e = .returned (.tuple #[.int .i64 r1, .int .i64 r2]) ∧ Below w.heap.size w w' := by
 have hu24 := Try.underlying24
 have HR0_2 := Aside0.mk hr0_2
 have HC0_2 := Aside0.mk hc0_2
 clear hr0_2 hc0_2
 have HB := Aside0.mk (Below.refl w.heap.size w)
 have H : (if (wrap64 (a1 - a0_0)) > 0 then (if 0 ≤ (wrap64 ((wrap64 (a1 - a0_0)) - 1)) then (if (wrap64 ((wrap64 (a1 - a0_0)) - 1)) < (l0_2.length : Int) then (curve_prices.j0 k a1 (rd l0_2 (wrap64 ((wrap64 (a1 - a0_0)) - 1))) 1048576 a0_0 a0_1 l0_2) else (none)) else (none)) else (curve_prices.j0 k a1 (-1048576) 1048576 a0_0 a0_1 l0_2)) = some (r1, r2) := h
 clear h
 have HC3 := Aside0.mk H
 clear H
 go_enter Try.func62, Try.ntmps62
 go_upto_if 15 with (first | ((with_reducible refine gate_dst (N := 2) rfl ?_); refine box_event ?hg (N := 2) ?hd (cs := #[.int .i64 a0_0, .int .i64 a0_1, .slice A0_2 l0_2.length c0_2]) (t := 24) ?hr ?_; (case hd => rfl); (case hg => rfl); (case hr => first | (go_simp; done) | (go_simp; rfl)); intro gb107 hg w4 hbox hb; have n0_ := Aside0.mk (below_step (by repeat (first | (with_reducible first | exact HB.out | apply below_alloc | apply pw_below_drewN | apply below_drew1) | exact HB.out)) hb); have n1_ := Aside0.mk (hbox); have n2_ := Aside0.mk ((by rw [hg]; exact (below_size (by repeat (first | (with_reducible first | exact HB.out | apply below_alloc | apply pw_below_drewN | apply below_drew1) | exact HB.out))) : w.heap.size ≤ gb107)); have n3_ := Aside0.mk ((by rw [hg]; exact (below_size (by repeat (first | (with_reducible first | exact HB.out | apply below_alloc | apply pw_below_drewN | apply below_drew1) | exact HB.out))) : w.heap.size ≤ gb107)); clear HB; have HB := n0_; have BK107 := n1_; have GW107 := n2_; have GE107 := n3_; clear n0_ n1_ n2_ n3_; clear hb hbox hg; have hcz5_0 : w4.cell? ⟨gb107, 0, none⟩ = some (.int .i64 a0_0) := (blk_cell BK107.out 0).trans rfl; have hcz5_1 : w4.cell? ⟨gb107, 1, none⟩ = some (.int .i64 a0_1) := (blk_cell BK107.out 1).trans rfl; have hcz5_2 : w4.cell? ⟨gb107, 2, none⟩ = some (.slice A0_2 l0_2.length c0_2) := (blk_cell BK107.out 2).trans rfl; have hfz5_0 := blk_frozen BK107.out 0; have hfz5_1 := blk_frozen BK107.out 1; have hfz5_2 := blk_frozen BK107.out 2))
 (try simp only [Act.put, List.setIfInBounds_toArray, List.set_cons_zero, List.set_cons_succ])
 go_cut [6] (fun v6 wc => ∃ (kq : Nat) (x6_2 : Int), v6 = .int .i64 x6_2 ∧ Aside0 (curve_prices.j0 kq a1 x6_2 1048576 a0_0 a0_1 l0_2 = some (r1, r2)) ∧ Aside0 (kq ≤ k) ∧ Aside0 (wc.heap[gb107]? = some (.cells #[.int .i64 a0_0, .int .i64 a0_1, (.slice A0_2 l0_2.length c0_2)] 24 (0, 0))) ∧ Aside0 (Below w.heap.size w wc))
 case first =>
  have H := HC3.out
  clear HC3
  by_cases c6 : (wrap64 (a1 - a0_0)) > 0
  · rw [if_pos c6] at H
    have c6b0 : decide (0 < (wrap64 (a1 - a0_0))) = true := decide_eq_true c6
    clear c6
    (first | rw [c6b0] | (simp only [i64_w, i32_w]; rw [c6b0]) | skip)
    obtain ⟨ji7, hji7⟩ : ∃ j_ : Int, (wrap64 ((wrap64 (a1 - a0_0)) - 1)) = j_ := ⟨_, rfl⟩
    replace H : (if 0 ≤ (ji7) then (if (ji7) < (l0_2.length : Int) then (curve_prices.j0 k a1 (rd l0_2 (ji7)) 1048576 a0_0 a0_1 l0_2) else (none)) else (none)) = some (r1, r2) := by first | (rw [hji7] at H; exact H) | (simp only [hji7] at H ⊢; exact H)
    have hji7w : (IntKind.i64.wrap ((wrap64 (a1 - a0_0)) - 1)) = ji7 := (i64_w _).trans hji7
    by_cases c8 : 0 ≤ (ji7)
    · rw [if_pos c8] at H
      have c8b0 : decide (0 ≤ (ji7)) = true := decide_eq_true c8
      clear c8
      by_cases c9 : (ji7) < (l0_2.length : Int)
      · rw [if_pos c9] at H
        have c9b0 : decide ((ji7) < (l0_2.length : Int)) = true := decide_eq_true c9
        clear c9
        have H' := Aside0.mk H
        clear H
        have hcz10_0 : w4.cell? ⟨gb107, 0, none⟩ = some (.int .i64 a0_0) := (blk_cell BK107.out 0).trans rfl
        have hcz10_1 : w4.cell? ⟨gb107, 1, none⟩ = some (.int .i64 a0_1) := (blk_cell BK107.out 1).trans rfl
        have hcz10_2 : w4.cell? ⟨gb107, 2, none⟩ = some (.slice A0_2 l0_2.length c0_2) := (blk_cell BK107.out 2).trans rfl
        have hfz10_0 := blk_frozen BK107.out 0
        have hfz10_1 := blk_frozen BK107.out 1
        have hfz10_2 := blk_frozen BK107.out 2
        have p108 : 0 ≤ ((ji7) : Int) := of_decide_eq_true (by first | (with_reducible assumption) | assumption)
        have q108 : (ji7) < (l0_2.length : Int) := of_decide_eq_true (by first | (with_reducible assumption) | assumption)
        obtain ⟨ad108, e108, hx108_0⟩ := Kd.at_int HR0_2.out (ji7) p108 q108
        cases e108
        replace hx108_0 := (HB.out.cell (World.block_lt_of_cell? w _ hx108_0)).trans hx108_0
        replace p108 := eq_true p108
        replace q108 := eq_true q108
        go_wp2
        go_meet
        case rel => exact ⟨_, (rd l0_2 (ji7)), (by first | rfl | (simp; done) | (simp only [← hji7] <;> (first | rfl | simp)) | (simp [*]; done)), H', ⟨by first | omega | exact Nat.le_refl _⟩, ⟨by (with_reducible repeat (first | refine blk_drewN ?_ _ | refine blk_drew ?_ | refine blk_alloc ?_ _)); exact BK107.out⟩, ⟨by repeat (first | (with_reducible first | exact HB.out | apply below_alloc | apply pw_below_drewN | apply below_drew1 | refine below_set ?_ GE107.out) | exact HB.out)⟩⟩
      · rw [if_neg c9] at H
        exact absurd H (by simp)
    · rw [if_neg c8] at H
      exact absurd H (by simp)
  · rw [if_neg c6] at H
    have c6b0 : decide (0 < (wrap64 (a1 - a0_0))) = false := decide_eq_false c6
    clear c6
    (first | rw [c6b0] | (simp only [i64_w, i32_w]; rw [c6b0]) | skip)
    have H' := Aside0.mk H
    clear H
    go_wp2
    go_meet
    case rel => exact ⟨_, ((-1048576)), (by first | rfl | (simp; done) | (simp [*]; done)), H', ⟨by first | omega | exact Nat.le_refl _⟩, ⟨by (with_reducible repeat (first | refine blk_drewN ?_ _ | refine blk_drew ?_ | refine blk_alloc ?_ _)); exact BK107.out⟩, ⟨by repeat (first | (with_reducible first | exact HB.out | apply below_alloc | apply pw_below_drewN | apply below_drew1 | refine below_set ?_ GE107.out) | exact HB.out)⟩⟩
 case rest =>
  clear HC3
  try clear p1
  try clear q1
  try clear hx1
  try clear p2
  try clear c6
  try clear c6b0
  try clear p6
  try clear c8
  try clear c8b0
  try clear c9
  try clear c9b0
  try clear p10
  try clear q10
  try clear hx10
  try clear hcz10_0
  try clear hcz10_1
  try clear hcz10_2
  try clear hcz5_0
  try clear hcz5_1
  try clear hcz5_2
  try clear hfz10_0
  try clear hfz10_1
  try clear hfz10_2
  try clear hfz5_0
  try clear hfz5_1
  try clear hfz5_2
  try clear hx108_0
  try clear p108
  try clear q108
  obtain ⟨kq, x6_2, rfl, HA, HJ2, BK107, HB⟩ := hcut
  cases kq with
  | zero => exact absurd HA.out (by simp [curve_prices.j0])
  | succ kj2 =>
   have H := HA.out
   clear HA
   simp only [curve_prices.j0] at H
   by_cases c11 : (wrap64 (a1 - a0_0)) < (l0_2.length : Int)
   · rw [if_pos c11] at H
     have c11b0 : decide ((wrap64 (a1 - a0_0)) < (l0_2.length : Int)) = true := decide_eq_true c11
     clear c11
     obtain ⟨ji12, hji12⟩ : ∃ j_ : Int, (wrap64 (a1 - a0_0)) = j_ := ⟨_, rfl⟩
     replace H : (if 0 ≤ (ji12) then (some (x6_2, rd l0_2 (ji12))) else (none)) = some (r1, r2) := by first | (rw [hji12] at H; exact H) | (simp only [hji12] at H ⊢; exact H)
     (try rw [hji12] at c11b0)
     have hji12w : (IntKind.i64.wrap (a1 - a0_0)) = ji12 := (i64_w _).trans hji12
     by_cases c13 : 0 ≤ (ji12)
     · rw [if_pos c13] at H
       have c13b0 : decide (0 ≤ (ji12)) = true := decide_eq_true c13
       clear c13
       simp only [Option.some.injEq, Prod.mk.injEq] at H
       obtain ⟨rfl, rfl⟩ := H
       have hcz14_0 : wc.cell? ⟨gb107, 0, none⟩ = some (.int .i64 a0_0) := (blk_cell BK107.out 0).trans rfl
       have hcz14_1 : wc.cell? ⟨gb107, 1, none⟩ = some (.int .i64 a0_1) := (blk_cell BK107.out 1).trans rfl
       have hcz14_2 : wc.cell? ⟨gb107, 2, none⟩ = some (.slice A0_2 l0_2.length c0_2) := (blk_cell BK107.out 2).trans rfl
       have hfz14_0 := blk_frozen BK107.out 0
       have hfz14_1 := blk_frozen BK107.out 1
       have hfz14_2 := blk_frozen BK107.out 2
       have p109 : 0 ≤ ((ji12) : Int) := of_decide_eq_true (by first | (with_reducible assumption) | assumption)
       have q109 : (ji12) < (l0_2.length : Int) := of_decide_eq_true (by first | (with_reducible assumption) | assumption)
       obtain ⟨ad109, e109, hx109_0⟩ := Kd.at_int HR0_2.out (ji12) p109 q109
       cases e109
       replace hx109_0 := (HB.out.cell (World.block_lt_of_cell? w _ hx109_0)).trans hx109_0
       replace p109 := eq_true p109
       replace q109 := eq_true q109
       go_wp2
       go_ret2
       exact ⟨by first | rfl | (simp [errW_none, errW_some] <;> rfl) | (simp only [← hji12]; first | rfl | (simp [errW_none, errW_some] <;> rfl)) | (simp [*, errW_none, errW_some] <;> rfl), by repeat (first | (with_reducible first | exact HB.out | apply below_alloc | apply pw_below_drewN | apply below_drew1 | refine below_set ?_ GE107.out) | exact HB.out)⟩
     · rw [if_neg c13] at H
       exact absurd H (by simp)
   · rw [if_neg c11] at H
     have c11b0 : decide ((wrap64 (a1 - a0_0)) < (l0_2.length : Int)) = false := decide_eq_false c11
     clear c11
     simp only [Option.some.injEq, Prod.mk.injEq] at H
     obtain ⟨rfl, rfl⟩ := H
     have hcz15_0 : wc.cell? ⟨gb107, 0, none⟩ = some (.int .i64 a0_0) := (blk_cell BK107.out 0).trans rfl
     have hcz15_1 : wc.cell? ⟨gb107, 1, none⟩ = some (.int .i64 a0_1) := (blk_cell BK107.out 1).trans rfl
     have hcz15_2 : wc.cell? ⟨gb107, 2, none⟩ = some (.slice A0_2 l0_2.length c0_2) := (blk_cell BK107.out 2).trans rfl
     have hfz15_0 := blk_frozen BK107.out 0
     have hfz15_1 := blk_frozen BK107.out 1
     have hfz15_2 := blk_frozen BK107.out 2
     go_wp2
     go_ret2
     exact ⟨by first | rfl | (simp [errW_none, errW_some] <;> rfl) | (simp [*, errW_none, errW_some] <;> rfl), by repeat (first | (with_reducible first | exact HB.out | apply below_alloc | apply pw_below_drewN | apply below_drew1 | refine below_set ?_ GE107.out) | exact HB.out)⟩
end Go.Proofs.Ytingjpcgehgiiaa.Pr
end
section
namespace Go.Proofs.Ytingjpcgehgiiaa.Pr
open Go.RowKit Go.Shelf Go.Proofs.YtingjpcgehgiiaaW.PrintWords Go.Proofs.YtingjpcgehgiiaaW.PrintLast Go.Proofs.YtingjpcgehgiiaaW.PrintMore
set_option linter.unusedVariables false
set_option linter.unusedSimpArgs false
/-- What is asked of a predicate on numbers: it tells p x, and keeps what lay there. -/
def PredI (g : Nat) (lb : Array Value) (p : Int → Bool) (w : World) : Prop :=
  ∀ (W : World) (x : Int), Below w.heap.size w W → Calls Try.prog g (#[.int .i64 x] ++ lb) W fun e w' => e = .returned (.bool (p x)) ∧ Below w.heap.size w w'
def idxS {α : Type} (p : α → Bool) (l : List α) : Int := match l.findIdx? p with
  | some i => (i : Int)
  | none => -1
theorem idxS_hit {α : Type} (p : α → Bool) (l : List α) (z : α) (k : Nat) (hk : k < l.length) (hp : p (l.getD k z) = true) (hb : ∀ j, j < k → p (l.getD j z) = false) : idxS p l = k := by
  unfold idxS
  rw [List.findIdx?_eq_some_iff_getElem.2 ⟨hk, by simpa [List.getD_eq_getElem?_getD, List.getElem?_eq_getElem hk] using hp, fun j hj => by
    have := hb j hj
    rw [List.getD_eq_getElem?_getD, List.getElem?_eq_getElem (by omega)] at this
    simpa using this⟩]
theorem idxS_miss {α : Type} (p : α → Bool) (l : List α) (z : α) (hb : ∀ j, j < l.length → p (l.getD j z) = false) : idxS p l = -1 := by
  unfold idxS
  rw [List.findIdx?_eq_none_iff.2 (fun x hx => by
    obtain ⟨j, hj, rfl⟩ := List.mem_iff_getElem.1 hx
    have := hb j hj
    rw [List.getD_eq_getElem?_getD, List.getElem?_eq_getElem hj] at this
    simpa using this)]
theorem idxS_any {α : Type} (p : α → Bool) (l : List α) : decide (0 ≤ idxS p l) = l.any p := by
  unfold idxS
  cases h : l.findIdx? p with
  | none =>
    have := List.findIdx?_eq_none_iff.1 h
    simp
    intro x hx
    exact this x hx
  | some i =>
    obtain ⟨hi, hp, _⟩ := List.findIdx?_eq_some_iff_getElem.1 h
    simp
    exact ⟨_, List.getElem_mem hi, hp⟩
set_option maxHeartbeats 1000000 in
set_option maxRecDepth 100000 in
theorem indexFunc_int (g : Nat) (lb : Array Value) (p : Int → Bool) (eg : ∀ args w, (callFunc g args).run Try.prog w = .ok (.enter g args) w) (A0 : Option Addr) (c0 : Nat) (l0 : List Int) (w : World) (hr0 : Kd.C (Kd.int .i64) w A0 l0.length l0) (hp : PredI g lb p w) :
    Calls Try.prog 83 #[.slice A0 l0.length c0, .func (.func g) #[] lb] w fun e w' => e = .returned (.int .i64 (idxS p l0)) ∧ Below w.heap.size w w' := by
  have hm : l0.length ≤ 9223372036854775807 := hr0.2.1
  have HR0 := Aside0.mk hr0
  have HP := Aside0.mk hp
  have HM := Aside0.mk hm
  clear hr0 hp hm
  go_enter Try.func83, Try.ntmps83
  go_wp2
  go_loopg [5, 8] l0.length (fun gg _ s8 wr => ∃ kk : Nat, kk ≤ l0.length ∧ l0.length - kk ≤ gg ∧ s8 = .int .i64 kk ∧ Aside0 (Below w.heap.size w wr) ∧ Aside0 (∀ j, j < kk → p (l0.getD j 0) = false))
  case atStart => exact ⟨0, Nat.zero_le _, by omega, rfl, ⟨Below.refl _ w⟩, ⟨fun j hj => absurd hj (Nat.not_lt_zero _)⟩⟩
  case round =>
    obtain ⟨kk, hkk, hg, rfl, HB, HA⟩ := hrel
    have hm2 := HM.out
    by_cases hlt : kk < l0.length
    · have hltz : (kk : Int) < (l0.length : Int) := by omega
      obtain ⟨ad, e, hx0⟩ := Kd.at_int (Kd.C_below HR0.out HB.out) (kk : Int) (by omega) hltz
      subst e
      have hcall := HP.out wr (l0.getD kk 0) HB.out
      have er : rd l0 (kk : Int) = l0.getD kk 0 := by unfold rd; rw [Int.toNat_natCast]
      rw [er, Int.toNat_natCast] at hx0
      clear er
      generalize hy : l0.getD kk 0 = y at hx0 hcall
      have HY := Aside0.mk hy
      clear hy
      cases hq : p y with
      | true =>
        rw [hq] at hcall
        have HQ := Aside0.mk hq
        clear hq
        go_wp2_with fail
        refine hcall.mono ?_
        rintro e w' ⟨rfl, hb'⟩
        go_wp2
        go_ret
        exact ⟨by rw [idxS_hit p l0 0 kk hlt (by rw [HY.out]; exact HQ.out) HA.out]; rfl, hb'⟩
      | false =>
        rw [hq] at hcall
        have HQ := Aside0.mk hq
        clear hq
        go_wp2_with fail
        refine hcall.mono ?_
        rintro e w' ⟨rfl, hb'⟩
        go_wp2
        go_roundg (l0.length - (kk + 1))
        case measure => omega
        case rel =>
          refine ⟨kk + 1, by omega, by omega, by go_num, ⟨hb'⟩, ⟨fun j hj => ?_⟩⟩
          by_cases e : j = kk
          · subst e
            rw [HY.out]; exact HQ.out
          · exact HA.out j (by omega)
    · have hltz : ¬ (kk : Int) < (l0.length : Int) := by omega
      go_wp2
      go_ret
      exact ⟨by rw [idxS_miss p l0 0 (fun j hj => HA.out j (by omega))]; rfl, HB.out⟩
set_option maxHeartbeats 1000000 in
theorem containsFunc_int (g : Nat) (lb : Array Value) (p : Int → Bool) (eg : ∀ args w, (callFunc g args).run Try.prog w = .ok (.enter g args) w) (A0 : Option Addr) (c0 : Nat) (l0 : List Int) (w : World) (hr0 : Kd.C (Kd.int .i64) w A0 l0.length l0) (hp : PredI g lb p w) :
    Calls Try.prog 54 #[.slice A0 l0.length c0, .func (.func g) #[] lb] w fun e w' => e = .returned (.bool (l0.any p)) ∧ Below w.heap.size w w' := by
  rw [← idxS_any]
  have HC := Aside0.mk (fun W => indexFunc_int g lb p eg A0 c0 l0 W)
  go_enter Try.func54, Try.ntmps54
  go_wp2_with (go_at_call 83; refine (HC.out _ hr0 hp).mono ?_; rintro e w' ⟨rfl, hb'⟩)
  go_ret
  exact ⟨rfl, hb'⟩
def inB (x m : Int) : Bool := decide (-m ≤ x) && decide (x ≤ m)
theorem within_f (x m : Int) (h0 : 0 ≤ m) (h1 : m ≤ 4611686018427387904) : curve_within.f x m = some (inB x m) := by
  unfold curve_within.f inB
  have e : wrap64 (-m) = -m := by unfold wrap64; omega
  rw [e]
  by_cases h : x ≥ -m
  · rw [if_pos h, decide_eq_true h, Bool.true_and]
  · rw [if_neg h, decide_eq_false h, Bool.false_and]
/-- The first i pairs of neighbours rise. -/
def sortedTo (l : List Int) (i : Nat) : Bool := (List.range i).all (fun j => decide (rd l (j : Int) ≤ rd l ((j + 1 : Nat) : Int)))
theorem sortedTo_succ (l : List Int) (i : Nat) : sortedTo l (i + 1) = (sortedTo l i && decide (rd l (i : Int) ≤ rd l ((i + 1 : Nat) : Int))) := by
  unfold sortedTo
  rw [List.range_succ, List.all_append]
  simp
def sortedI (l : List Int) : Bool := sortedTo l (l.length - 1)
theorem less_f (x y : Int) : cmp_Less_int.f x y = some (decide (x < y)) := by
  unfold cmp_Less_int.f cmp_isNaN_int.f
  simp
theorem sorted_loop (l : List Int) (hn : l.length ≤ 9223372036854775807) : ∀ i : Nat, i < l.length ∨ i = 0 → Ev (fun k => slices_IsSorted_int_int.l0 k l (i : Int)) (sortedTo l i)
  | 0, _ => Ev.step (f := fun _ => some true) (fun k => by simp only [slices_IsSorted_int_int.l0]; rw [if_neg (by omega)]) (Ev.now _)
  | i + 1, h => by
    have hi : i + 1 < l.length := by omega
    have ew : wrap64 (((i + 1 : Nat) : Int) - 1) = (i : Int) := by unfold wrap64; omega
    have ih := sorted_loop l hn i (.inl (by omega))
    rw [sortedTo_succ]
    by_cases hc : rd l ((i + 1 : Nat) : Int) < rd l (i : Int)
    · rw [decide_eq_false (by omega), Bool.and_false]
      refine Ev.step (f := fun _ => some false) (fun k => ?_) (Ev.now _)
      simp only [slices_IsSorted_int_int.l0]
      rw [ew, if_pos (by omega), if_pos (by omega), if_pos (by omega), if_pos (by omega), if_pos (by omega)]
      rw [less_f, decide_eq_true hc]
      rfl
    · rw [decide_eq_true (by omega), Bool.and_true]
      refine Ev.step (fun k => ?_) ih
      simp only [slices_IsSorted_int_int.l0]
      rw [ew, if_pos (by omega), if_pos (by omega), if_pos (by omega), if_pos (by omega), if_pos (by omega)]
      rw [less_f, decide_eq_false hc]
      rfl
theorem sorted_ev (l : List Int) (hn : l.length ≤ 9223372036854775807) : Ev (fun k => slices_IsSorted_int_int.f k l) (sortedI l) := by
  unfold slices_IsSorted_int_int.f sortedI
  rcases l with _ | ⟨x, t⟩
  · exact Ev.step (f := fun _ => some true) (fun k => by simp only [slices_IsSorted_int_int.l0]; rw [if_neg (by unfold wrap64; decide)]) (Ev.now _)
  · have e : wrap64 (((x :: t).length : Int) - 1) = (((x :: t).length - 1 : Nat) : Int) := by unfold wrap64; simp at hn ⊢; omega
    rw [e]
    exact sorted_loop (x :: t) hn _ (.inl (by simp))
theorem pred_slope (w : World) : PredI 55 #[] (fun s => !inB s 1048576) w := by
  intro W x hB
  have H := Aside0.mk (within_f x 1048576 (by decide) (by decide))
  change Calls Try.prog 55 #[.int .i64 x] W _
  go_enter Try.func55, Try.ntmps55
  go_wp2_with (go_at_call 52; (with_reducible refine (curve_within.calls x 1048576 _ _ H.out).mono ?_); rintro e w1 ⟨rfl, hd⟩)
  go_ret
  exact ⟨rfl, below_then hB hB.size hd.below⟩
theorem enter55 : ∀ (args : Array Value) (w : World), (callFunc 55 args).run Try.prog w = .ok (.enter 55 args) w := enters_of Try.func55 (by kernel_rfl) rfl
def validC (a0 a1 : Int) (l : List Int) : Bool := inB a0 1048576 && (inB a1 1099511627776 && (decide (l.length ≤ 64) && (sortedI l && !(l.any (fun s => !inB s 1048576)))))
def curve_Valid.f (a0_0 : Int) (a0_1 : Int) (l0_2 : List Int) : Option Bool := some (validC a0_0 a0_1 l0_2)
set_option maxHeartbeats 4000000 in
set_option maxRecDepth 100000 in
theorem curve_Valid.calls (a0_0 : Int) (a0_1 : Int) (A0_2 : Option Addr) (c0_2 : Nat) (l0_2 : List Int) (r : Bool) (w : World) (hr0_2 : Kd.C (Kd.int .i64) w A0_2 l0_2.length l0_2) (hc0_2 : l0_2.length ≤ c0_2) (h : curve_Valid.f a0_0 a0_1 l0_2 = some r) :
    Calls Try.prog 16 #[.agg #[.int .i64 a0_0, .int .i64 a0_1, .slice A0_2 l0_2.length c0_2]] w fun e w' => e = .returned (.bool r) ∧ Below w.heap.size w w' := by
  have hv : validC a0_0 a0_1 l0_2 = r := Option.some.inj h
  have HR := Aside0.mk hr0_2
  have HC := Aside0.mk hc0_2
  obtain ⟨k, hk⟩ := (sorted_ev l0_2 hr0_2.2.1).rounds
  have W1 := Aside0.mk (within_f a0_0 1048576 (by decide) (by decide))
  have W2 := Aside0.mk (within_f a0_1 1099511627776 (by decide) (by decide))
  have W3 := Aside0.mk hk
  unfold validC at hv
  clear h hr0_2 hc0_2 hk
  generalize inB a0_0 1048576 = b1 at hv W1
  generalize inB a0_1 1099511627776 = b2 at hv W2
  generalize sortedI l0_2 = b3 at hv W3
  have HV := Aside0.mk hv
  clear hv
  go_enter Try.func16, Try.ntmps16
  go_wp2_with ((with_reducible refine gate_dst (N := 1) rfl ?_); refine box_event ?hg (N := 1) ?hd (cs := #[.int .i64 a0_0, .int .i64 a0_1, .slice A0_2 l0_2.length c0_2]) (t := 24) ?hr ?_; (case hd => rfl); (case hg => rfl); (case hr => first | (go_simp; done) | (go_simp; rfl)); intro gb hg w1 hbox hb; have HB1 := Aside0.mk hb; have BK1 := Aside0.mk hbox; have hz0 : w1.cell? ⟨gb, 0, none⟩ = some (.int .i64 a0_0) := (blk_cell hbox 0).trans rfl; clear hb hg hbox)
  go_wp2_with (go_at_call 52; (with_reducible refine (curve_within.calls a0_0 1048576 _ _ W1.out).mono ?_); rintro e w2 ⟨rfl, hd⟩; have HB2 := Aside0.mk (below_then HB1.out HB1.out.size hd.below); have BK2 := Aside0.mk (blk_below BK1.out hd.below); clear hd HB1 BK1 hz0; have hz1 : w2.cell? ⟨gb, 1, none⟩ = some (.int .i64 a0_1) := (blk_cell BK2.out 1).trans rfl; cases b1)
  · go_wp2
    go_ret
    exact ⟨by rw [← HV.out]; rfl, HB2.out⟩
  · go_wp2_with (go_at_call 52; (with_reducible refine (curve_within.calls a0_1 1099511627776 _ _ W2.out).mono ?_); rintro e w3 ⟨rfl, hd⟩; have HB3 := Aside0.mk (below_then HB2.out HB2.out.size hd.below); have BK3 := Aside0.mk (blk_below BK2.out hd.below); clear hd HB2 BK2 hz1; have hz2 : w3.cell? ⟨gb, 2, none⟩ = some (.slice A0_2 l0_2.length c0_2) := (blk_cell BK3.out 2).trans rfl; cases b2 <;> by_cases hl : (64 : Int) < (l0_2.length : Int))
    · go_wp2
      go_ret
      exact ⟨by rw [← HV.out]; rfl, HB3.out⟩
    · go_wp2
      go_ret
      exact ⟨by rw [← HV.out]; rfl, HB3.out⟩
    · have HL := Aside0.mk (show ¬ l0_2.length ≤ 64 by omega)
      go_wp2
      go_ret
      exact ⟨by rw [← HV.out, decide_eq_false HL.out]; rfl, HB3.out⟩
    · have HL := Aside0.mk (show l0_2.length ≤ 64 by omega)
      go_wp2_with (go_at_call 53; (with_reducible refine (slices_IsSorted_int_int.calls k _ _ l0_2 _ _ (Kd.C_below HR.out HB3.out) HC.out W3.out).mono ?_); rintro e w4 ⟨rfl, hd⟩; have HB4 := Aside0.mk (below_then HB3.out HB3.out.size hd.below); have BK4 := Aside0.mk (blk_below BK3.out hd.below); clear hd HB3 BK3 hz2; have hz3 : w4.cell? ⟨gb, 2, none⟩ = some (.slice A0_2 l0_2.length c0_2) := (blk_cell BK4.out 2).trans rfl; cases b3)
      · go_wp2
        go_ret
        exact ⟨by rw [← HV.out, decide_eq_true HL.out]; rfl, HB4.out⟩
      · go_wp2_with (go_at_call 54; (with_reducible refine (containsFunc_int 55 #[] _ enter55 _ _ l0_2 _ (Kd.C_below HR.out HB4.out) (pred_slope _)).mono ?_); rintro e w5 ⟨rfl, hb5⟩)
        go_ret
        exact ⟨by rw [← HV.out, decide_eq_true HL.out]; rfl, below_then HB4.out HB4.out.size hb5⟩
end Go.Proofs.Ytingjpcgehgiiaa.Pr
end
section
namespace Go.Proofs.Ytingjpcgehgiiaa.Pr
open Go.RowKit Go.Shelf Go.Proofs.YtingjpcgehgiiaaW.PrintWords Go.Proofs.YtingjpcgehgiiaaW.PrintLast Go.Proofs.YtingjpcgehgiiaaW.PrintMore
set_option linter.unusedVariables false
set_option linter.unusedSimpArgs false
/-- What is asked of a predicate on curves: it tells p x, and keeps what lay there. -/
def PredC (g : Nat) (lb : Array Value) (p : S24 → Bool) (w : World) : Prop :=
  ∀ (W : World) (x : S24) (A : Option Addr) (c : Nat), Below w.heap.size w W → Kd.C (Kd.int .i64) W A x.f2.length x.f2 → x.f2.length ≤ c → Calls Try.prog g (#[.agg #[.int .i64 x.f0, .int .i64 x.f1, .slice A x.f2.length c]] ++ lb) W fun e w' => e = .returned (.bool (p x)) ∧ Below w.heap.size w w'
set_option maxHeartbeats 1000000 in
set_option maxRecDepth 100000 in
theorem indexFunc_curve (g : Nat) (lb : Array Value) (p : S24 → Bool) (eg : ∀ args w, (callFunc g args).run Try.prog w = .ok (.enter g args) w) (A0 : Option Addr) (c0 : Nat) (l0 : List S24) (w : World) (hr0 : Kd.C k24 w A0 l0.length l0) (hp : PredC g lb p w) :
    Calls Try.prog 84 #[.slice A0 l0.length c0, .func (.func g) #[] lb] w fun e w' => e = .returned (.int .i64 (idxS p l0)) ∧ Below w.heap.size w w' := by
  have hm : l0.length ≤ 9223372036854775807 := hr0.2.1
  have HR0 := Aside0.mk hr0
  have HP := Aside0.mk hp
  have HM := Aside0.mk hm
  clear hr0 hp hm
  have hu24 := Try.underlying24
  go_enter Try.func84, Try.ntmps84
  go_wp2
  go_loopg [5, 8] l0.length (fun gg _ s8 wr => ∃ kk : Nat, kk ≤ l0.length ∧ l0.length - kk ≤ gg ∧ s8 = .int .i64 kk ∧ Aside0 (Below w.heap.size w wr) ∧ Aside0 (∀ j, j < kk → p (l0.getD j z24) = false))
  case atStart => exact ⟨0, Nat.zero_le _, by omega, rfl, ⟨Below.refl _ w⟩, ⟨fun j hj => absurd hj (Nat.not_lt_zero _)⟩⟩
  case round =>
    obtain ⟨kk, hkk, hg, rfl, HB, HA⟩ := hrel
    have hm2 := HM.out
    by_cases hlt : kk < l0.length
    · have hltz : (kk : Int) < (l0.length : Int) := by omega
      obtain ⟨ad, A2, c2, e, hx0, hx1, hx2, hl2, hc2⟩ := at_T24 (Kd.C_below HR0.out HB.out) (kk : Int) (by omega) hltz
      subst e
      have er : rd_T24 l0 (kk : Int) = l0.getD kk z24 := by unfold rd_T24; rw [Int.toNat_natCast]
      rw [er] at hx0 hx1 hx2 hl2 hc2
      rw [Int.toNat_natCast] at hx0 hx1 hx2
      have hcall := HP.out wr (l0.getD kk z24) A2 c2 HB.out hc2 hl2
      clear er hc2
      generalize hy : l0.getD kk z24 = y at hx0 hx1 hx2 hl2 hcall
      have HY := Aside0.mk hy
      clear hy
      cases hq : p y with
      | true =>
        rw [hq] at hcall
        have HQ := Aside0.mk hq
        clear hq
        go_wp2_with fail
        refine hcall.mono ?_
        rintro e w' ⟨rfl, hb'⟩
        go_wp2
        go_ret
        exact ⟨by rw [idxS_hit p l0 z24 kk hlt (by rw [HY.out]; exact HQ.out) HA.out]; rfl, hb'⟩
      | false =>
        rw [hq] at hcall
        have HQ := Aside0.mk hq
        clear hq
        go_wp2_with fail
        refine hcall.mono ?_
        rintro e w' ⟨rfl, hb'⟩
        go_wp2
        go_roundg (l0.length - (kk + 1))
        case measure => omega
        case rel =>
          refine ⟨kk + 1, by omega, by omega, by go_num, ⟨hb'⟩, ⟨fun j hj => ?_⟩⟩
          by_cases e : j = kk
          · subst e
            rw [HY.out]; exact HQ.out
          · exact HA.out j (by omega)
    · have hltz : ¬ (kk : Int) < (l0.length : Int) := by omega
      go_wp2
      go_ret
      exact ⟨by rw [idxS_miss p l0 z24 (fun j hj => HA.out j (by omega))]; rfl, HB.out⟩
set_option maxHeartbeats 1000000 in
theorem containsFunc_curve (g : Nat) (lb : Array Value) (p : S24 → Bool) (eg : ∀ args w, (callFunc g args).run Try.prog w = .ok (.enter g args) w) (A0 : Option Addr) (c0 : Nat) (l0 : List S24) (w : World) (hr0 : Kd.C k24 w A0 l0.length l0) (hp : PredC g lb p w) :
    Calls Try.prog 56 #[.slice A0 l0.length c0, .func (.func g) #[] lb] w fun e w' => e = .returned (.bool (l0.any p)) ∧ Below w.heap.size w w' := by
  rw [← idxS_any]
  have HC := Aside0.mk (fun W => indexFunc_curve g lb p eg A0 c0 l0 W)
  go_enter Try.func56, Try.ntmps56
  go_wp2_with (go_at_call 84; refine (HC.out _ hr0 hp).mono ?_; rintro e w' ⟨rfl, hb'⟩)
  go_ret
  exact ⟨rfl, hb'⟩
theorem enter57 : ∀ (args : Array Value) (w : World), (callFunc 57 args).run Try.prog w = .ok (.enter 57 args) w := enters_of Try.func57 (by kernel_rfl) rfl
set_option maxHeartbeats 1000000 in
theorem pred_valid (w : World) : PredC 57 #[] (fun x => !validC x.f0 x.f1 x.f2) w := by
  intro W x A c hB hc hl
  have HC := Aside0.mk hc
  have HL := Aside0.mk hl
  clear hc hl
  change Calls Try.prog 57 #[.agg #[.int .i64 x.f0, .int .i64 x.f1, .slice A x.f2.length c]] W _
  go_enter Try.func57, Try.ntmps57
  go_wp2_with (first | ((with_reducible refine gate_dst (N := 1) rfl ?_); refine box_event ?hg (N := 1) ?hd (cs := #[.int .i64 x.f0, .int .i64 x.f1, .slice A x.f2.length c]) (t := 24) ?hr ?_; (case hd => rfl); (case hg => rfl); (case hr => first | (go_simp; done) | (go_simp; rfl)); intro gb hg w1 hbox hb; have HB1 := Aside0.mk hb; have hz0 : w1.cell? ⟨gb, 0, none⟩ = some (.int .i64 x.f0) := (blk_cell hbox 0).trans rfl; have hz1 : w1.cell? ⟨gb, 1, none⟩ = some (.int .i64 x.f1) := (blk_cell hbox 1).trans rfl; have hz2 : w1.cell? ⟨gb, 2, none⟩ = some (.slice A x.f2.length c) := (blk_cell hbox 2).trans rfl; clear hb hg hbox))
  go_wp2_with (go_at_call 16; (with_reducible refine (curve_Valid.calls x.f0 x.f1 _ _ x.f2 _ _ (Kd.C_below HC.out HB1.out) HL.out rfl).mono ?_); rintro e w2 ⟨rfl, hb2⟩)
  go_ret
  exact ⟨rfl, below_then hB hB.size (below_then HB1.out HB1.out.size hb2)⟩
/-- A share: a curve and the number at which it is, in a block of its own. -/
def ShareAt (W : World) (b : Nat) (c : S24) (x : Int) : Prop := ∃ A cap, W.heap[b]? = some (.cells #[.int .i64 c.f0, .int .i64 c.f1, .slice A c.f2.length cap, .int .i64 x] 69 (0, 0)) ∧ c.f2.length ≤ cap ∧ Kd.C (Kd.int .i64) W A c.f2.length c.f2
def nextR (c : S24) (x : Int) : Int × Bool := if wrap64 (x - c.f0) < (c.f2.length : Int) then (rd c.f2 (wrap64 (x - c.f0)), true) else (0, false)
set_option maxHeartbeats 1000000 in
set_option maxRecDepth 100000 in
theorem next_calls (b : Nat) (c : S24) (x : Int) (W : World) (h : ShareAt W b c x) (h0 : 0 ≤ wrap64 (x - c.f0)) : Calls Try.prog 60 #[.pointer (some ⟨b, 0, none⟩)] W fun e w' => e = .returned (.tuple #[.int .i64 (nextR c x).1, .bool (nextR c x).2]) ∧ Drawn0 W w' := by
  obtain ⟨A, cap, hb, hl, hc⟩ := h
  have hz0 : W.cell? ⟨b, 0, none⟩ = some (.int .i64 c.f0) := (blk_cell hb 0).trans rfl
  have hz1 : W.cell? ⟨b, 1, none⟩ = some (.int .i64 c.f1) := (blk_cell hb 1).trans rfl
  have hz2 : W.cell? ⟨b, 2, none⟩ = some (.slice A c.f2.length cap) := (blk_cell hb 2).trans rfl
  have hz3 : W.cell? ⟨b, 3, none⟩ = some (.int .i64 x) := (blk_cell hb 3).trans rfl
  have hu69 := Try.underlying69
  have hu24 := Try.underlying24
  have mixed : Try.prog.follows .mixedOrders = true := by kernel_rfl
  obtain ⟨n, hn⟩ : ∃ n, wrap64 (x - c.f0) = n := ⟨_, rfl⟩
  have hnw : IntKind.i64.wrap (x - c.f0) = n := (i64_w _).trans hn
  rw [hn] at h0
  have HC := Aside0.mk hc
  unfold nextR
  rw [hn]
  clear hn hc
  by_cases hlt : n < (c.f2.length : Int)
  · rw [if_pos hlt]
    obtain ⟨ad, e, hx⟩ := Kd.at_int HC.out n h0 hlt
    subst e
    go_enter Try.func60, Try.ntmps60
    go_wp2
    go_quiet (fail)
    go_wp2
    go_ret2
    exact ⟨rfl, ⟨⟨_, rfl⟩⟩⟩
  · rw [if_neg hlt]
    go_enter Try.func60, Try.ntmps60
    go_wp2
    go_quiet (fail)
    go_wp2
    go_ret2
    exact ⟨rfl, ⟨⟨_, rfl⟩⟩⟩
/-- A pointer to a block's head. -/
def kP : Kd Nat := Kd.scalar (fun b => .pointer (some ⟨b, 0, none⟩)) (fun _ => rfl)
theorem at_P {w : World} {A : Option Addr} {n : Nat} {bs : List Nat} (h : Kd.C kP w A n bs) (i : Nat) (h1 : i < n) : ∃ ad, A = some ad ∧ w.cell? (ad.add i) = some (.pointer (some ⟨bs.getD i 0, 0, none⟩)) := by
  obtain ⟨ad, c, e, _, hK, hc⟩ := Kd.C_get h 0 (i : Int) (by omega) (by omega)
  have hk : c = [.pointer (some ⟨bs.getD i 0, 0, none⟩)] := hK
  subst hk
  refine ⟨ad, e, ?_⟩
  have := hc 0 _ rfl
  simpa [kP, Kd.scalar] using this
theorem ShareAt.below {W W' : World} {b : Nat} {c : S24} {x : Int} (h : ShareAt W b c x) (hb : Below W.heap.size W W') : ShareAt W' b c x := by
  obtain ⟨A, cap, h1, h2, h3⟩ := h
  exact ⟨A, cap, blk_below h1 hb, h2, Kd.C_below h3 hb⟩
abbrev Shr := List (S24 × Int)
def zS : S24 × Int := (z24, 0)
def bestStep (i : Nat) (st : Int × Int) (r : Int × Bool) : Int × Int := if (r.2 && (decide (st.1 < 0) || decide (r.1 ≤ st.2))) = true then ((i : Int), r.1) else st
def bestTo (sh : Shr) : Nat → Int × Int
  | 0 => (-1, 0)
  | k + 1 => bestStep k (bestTo sh k) (nextR (sh.getD k zS).1 (sh.getD k zS).2)
/-- The shares lie where the list of blocks says. -/
def Shares (W : World) (bs : List Nat) (sh : Shr) : Prop := bs.length = sh.length ∧ ∀ i, i < sh.length → ShareAt W (bs.getD i 0) (sh.getD i zS).1 (sh.getD i zS).2 ∧ 0 ≤ wrap64 ((sh.getD i zS).2 - (sh.getD i zS).1.f0)
set_option maxHeartbeats 4000000 in
set_option maxRecDepth 100000 in
theorem best_calls (A : Option Addr) (c0 : Nat) (bs : List Nat) (sh : Shr) (W : World) (hr : Kd.C kP W A bs.length bs) (hs : Shares W bs sh) :
    Calls Try.prog 59 #[.slice A bs.length c0, .func (.func 60) #[] #[]] W fun e w' => e = .returned (.int .i64 (bestTo sh sh.length).1) ∧ Drawn0 W w' := by
  have hm : bs.length ≤ 9223372036854775807 := hr.2.1
  have HR := Aside0.mk hr
  have HS := Aside0.mk hs.2
  have HL := Aside0.mk hs.1
  have HM := Aside0.mk hm
  clear hr hs hm
  go_enter Try.func59, Try.ntmps59
  go_wp2
  go_loopg [5, 6, 13] bs.length (fun gg v5 v6 v13 wr => ∃ kk : Nat, kk ≤ bs.length ∧ bs.length - kk ≤ gg ∧ v13 = .int .i64 kk ∧ v5 = .int .i64 (bestTo sh kk).1 ∧ v6 = .int .i64 (bestTo sh kk).2 ∧ Aside0 (Drawn0 W wr))
  case atStart => exact ⟨0, Nat.zero_le _, by omega, rfl, rfl, rfl, ⟨Drawn0.refl _⟩⟩
  case round =>
    obtain ⟨kk, hkk, hg, rfl, rfl, rfl, HD⟩ := hrel
    have hm2 := HM.out
    by_cases hlt : kk < bs.length
    · have hltz : (kk : Int) < (bs.length : Int) := by omega
      obtain ⟨ad, e, hx⟩ := at_P (Kd.C_below HR.out HD.out.below) kk hlt
      subst e
      obtain ⟨s1, s2⟩ := HS.out kk (by rw [← HL.out]; exact hlt)
      have hcall := next_calls _ _ _ wr (s1.below HD.out.below) s2
      have HE := Aside0.mk (show bestTo sh (kk + 1) = bestStep kk (bestTo sh kk) (nextR (sh.getD kk zS).1 (sh.getD kk zS).2) from rfl)
      clear s1 s2
      generalize bs.getD kk 0 = b at hx hcall
      generalize nextR (sh.getD kk zS).1 (sh.getD kk zS).2 = nr at hcall HE
      generalize bestTo sh kk = st at HE
      obtain ⟨n1, n2⟩ := nr
      obtain ⟨st1, st2⟩ := st
      have HC := Aside0.mk hcall
      clear hcall
      have e1 : ∀ (m1 : Int), bestStep kk (st1, st2) (m1, false) = (st1, st2) := fun _ => rfl
      have E1 := Aside0.mk e1
      clear e1
      by_cases h1 : st1 < 0
      · have E2 := Aside0.mk (show ∀ m1, bestStep kk (st1, st2) (m1, true) = ((kk : Int), m1) from fun m1 => by unfold bestStep; rw [decide_eq_true h1]; rfl)
        go_wp2_with (go_at_call 60; (with_reducible refine HC.out.mono ?_); rintro e w1 ⟨rfl, hd⟩; obtain ⟨⟨q, hq⟩⟩ := hd; have hdd : Drawn0 W w1 := (by rw [hq]; exact HD.out.step q); clear hq; cases n2)
        · go_wp2
          go_roundg (bs.length - (kk + 1))
          case measure => omega
          case rel => exact ⟨kk + 1, by omega, by omega, by go_num, by rw [HE.out, E1.out], by rw [HE.out, E1.out], ⟨hdd⟩⟩
        · go_wp2
          go_roundg (bs.length - (kk + 1))
          case measure => omega
          case rel => exact ⟨kk + 1, by omega, by omega, by go_num, by rw [HE.out, E2.out], by rw [HE.out, E2.out], ⟨hdd⟩⟩
      · by_cases h2 : n1 ≤ st2
        · have E2 := Aside0.mk (show bestStep kk (st1, st2) (n1, true) = ((kk : Int), n1) by unfold bestStep; rw [decide_eq_false h1, decide_eq_true h2]; rfl)
          go_wp2_with (go_at_call 60; (with_reducible refine HC.out.mono ?_); rintro e w1 ⟨rfl, hd⟩; obtain ⟨⟨q, hq⟩⟩ := hd; have hdd : Drawn0 W w1 := (by rw [hq]; exact HD.out.step q); clear hq; cases n2)
          · go_wp2
            go_roundg (bs.length - (kk + 1))
            case measure => omega
            case rel => exact ⟨kk + 1, by omega, by omega, by go_num, by rw [HE.out, E1.out], by rw [HE.out, E1.out], ⟨hdd⟩⟩
          · go_wp2
            go_roundg (bs.length - (kk + 1))
            case measure => omega
            case rel => exact ⟨kk + 1, by omega, by omega, by go_num, by rw [HE.out, E2.out], by rw [HE.out, E2.out], ⟨hdd⟩⟩
        · have E2 := Aside0.mk (show bestStep kk (st1, st2) (n1, true) = (st1, st2) by unfold bestStep; rw [decide_eq_false h1, decide_eq_false h2]; rfl)
          go_wp2_with (go_at_call 60; (with_reducible refine HC.out.mono ?_); rintro e w1 ⟨rfl, hd⟩; obtain ⟨⟨q, hq⟩⟩ := hd; have hdd : Drawn0 W w1 := (by rw [hq]; exact HD.out.step q); clear hq; cases n2)
          · go_wp2
            go_roundg (bs.length - (kk + 1))
            case measure => omega
            case rel => exact ⟨kk + 1, by omega, by omega, by go_num, by rw [HE.out, E1.out], by rw [HE.out, E1.out], ⟨hdd⟩⟩
          · go_wp2
            go_roundg (bs.length - (kk + 1))
            case measure => omega
            case rel => exact ⟨kk + 1, by omega, by omega, by go_num, by rw [HE.out, E2.out], by rw [HE.out, E2.out], ⟨hdd⟩⟩
    · have hltz : ¬ (kk : Int) < (bs.length : Int) := by omega
      obtain rfl : kk = bs.length := by omega
      go_wp2
      go_ret
      exact ⟨by rw [HL.out]; rfl, HD.out⟩
end Go.Proofs.Ytingjpcgehgiiaa.Pr
end
section
namespace Go.Proofs.Ytingjpcgehgiiaa.Pr
open Go.RowKit Go.Proofs.YtingjpcgehgiiaaW.PrintWords Go.Proofs.YtingjpcgehgiiaaW.PrintLast Go.Proofs.YtingjpcgehgiiaaW.PrintMore
set_option linter.unusedVariables false
set_option linter.unusedSimpArgs false
def addAll (v : Int) (l : List Int) : Int := l.foldl (fun v s => wrap64 (v + s)) v
def curve_at.f (a0_0 : Int) (a0_1 : Int) (l0_2 : List Int) (a1 : Int) : Option Int :=
  if 0 ≤ wrap64 (a1 - a0_0) ∧ wrap64 (a1 - a0_0) ≤ (l0_2.length : Int) then some (addAll a0_1 (l0_2.take (wrap64 (a1 - a0_0)).toNat)) else none
theorem addAll_succ (v : Int) (l : List Int) (k : Nat) (h : k < l.length) : addAll v (l.take (k + 1)) = wrap64 (addAll v (l.take k) + rd l (k : Int)) := by
  unfold addAll rd
  rw [List.take_add_one, List.getElem?_eq_getElem h, List.foldl_append]
  simp [List.getD_eq_getElem?_getD, List.getElem?_eq_getElem h]
set_option maxHeartbeats 4000000 in
set_option maxRecDepth 100000 in
theorem curve_at.calls (a0_0 : Int) (a0_1 : Int) (A0_2 : Option Addr) (c0_2 : Nat) (l0_2 : List Int) (a1 : Int) (r : Int) (w : World) (hr0 : Kd.C (Kd.int .i64) w A0_2 l0_2.length l0_2) (hc0 : l0_2.length ≤ c0_2) (h : curve_at.f a0_0 a0_1 l0_2 a1 = some r) :
    Calls Try.prog 61 #[.agg #[.int .i64 a0_0, .int .i64 a0_1, .slice A0_2 l0_2.length c0_2], .int .i64 a1] w fun e w' => e = .returned (.int .i64 r) ∧ Below w.heap.size w w' := by
  unfold curve_at.f at h
  split at h
  · rename_i hin
    injection h with h
    obtain ⟨i0, hi, _, hsz, _⟩ := info_parts info3
    obtain ⟨n, hn⟩ : ∃ n, wrap64 (a1 - a0_0) = n := ⟨_, rfl⟩
    have hnw : IntKind.i64.wrap (a1 - a0_0) = n := (i64_w _).trans hn
    rw [hn] at hin h
    obtain ⟨hcut, hA, hC⟩ := print_take_of (P := Try.prog) (Value.int .i64) 0 22 3 .i64 Try.underlying22 hi hsz A0_2 c0_2 l0_2 n hin.1 hin.2 hc0
    have HR := Aside0.mk (Kd.C_of_reads (h1 := fun _ => rfl) (hA _ (Kd.reads_of_C hr0)))
    have HRb := Aside0.mk hr0.2.1
    have hlen : (l0_2.take n.toNat).length ≤ l0_2.length := by rw [List.length_take]; exact Nat.min_le_right _ _
    have hm : (l0_2.take n.toNat).length ≤ 9223372036854775807 := Nat.le_trans hlen hr0.2.1
    generalize l0_2.take n.toNat = lt at hcut h HR hm
    have HH := Aside0.mk h
    have HB := Aside0.mk (Below.refl w.heap.size w)
    clear h hA hC hi hsz hin hlen hr0 hn HRb
    go_enter Try.func61, Try.ntmps61
    go_wp2_with ((with_reducible refine gate_dst (N := 2) rfl ?_); refine box_event ?hg (N := 2) ?hd (cs := #[.int .i64 a0_0, .int .i64 a0_1, .slice A0_2 l0_2.length c0_2]) (t := 24) ?hr ?_; (case hd => rfl); (case hg => rfl); (case hr => first | (go_simp; done) | (go_simp; rfl)); intro gb hg w1 hbox hb; have HB1 := Aside0.mk hb; have hz0 : w1.cell? ⟨gb, 0, none⟩ = some (.int .i64 a0_0) := (blk_cell hbox 0).trans rfl; have hz1 : w1.cell? ⟨gb, 1, none⟩ = some (.int .i64 a0_1) := (blk_cell hbox 1).trans rfl; have hz2 : w1.cell? ⟨gb, 2, none⟩ = some (.slice A0_2 l0_2.length c0_2) := (blk_cell hbox 2).trans rfl; clear hb hg hbox)
    go_loopg [5, 18] lt.length (fun gg v5 v18 wr => ∃ kk : Nat, kk ≤ lt.length ∧ lt.length - kk ≤ gg ∧ v5 = .int .i64 (addAll a0_1 (lt.take kk)) ∧ v18 = .int .i64 kk ∧ wr = w1)
    case atStart => exact ⟨0, Nat.zero_le _, by omega, by simp [addAll], rfl, rfl⟩
    case round =>
      obtain ⟨kk, hkk, hg, rfl, rfl, rfl⟩ := hrel
      by_cases hlt : kk < lt.length
      · have hltz : (kk : Int) < (lt.length : Int) := by omega
        obtain ⟨ad, e, hx⟩ := Kd.at_int (Kd.C_below HR.out HB1.out) (kk : Int) (by omega) hltz
        subst e
        rw [Int.toNat_natCast] at hx
        have HS := Aside0.mk (addAll_succ a0_1 lt kk hlt)
        go_wp2
        go_roundg (lt.length - (kk + 1))
        case measure => omega
        case rel => exact ⟨kk + 1, by omega, by omega, by first | (rw [HS.out]; done) | (rw [HS.out]; rfl) | (rw [HS.out]; simp only [i64_w]), by go_num, rfl⟩
      · have hltz : ¬ (kk : Int) < (lt.length : Int) := by omega
        obtain rfl : kk = lt.length := by omega
        go_wp2
        go_ret
        exact ⟨by rw [← HH.out]; first | rfl | simp, HB1.out⟩
  · cases h
end Go.Proofs.Ytingjpcgehgiiaa.Pr
end
section
namespace Go.Proofs.Ytingjpcgehgiiaa.Pr
open Go.RowKit Go.Proofs.YtingjpcgehgiiaaW.PrintWords Go.Proofs.YtingjpcgehgiiaaW.PrintLast Go.Proofs.YtingjpcgehgiiaaW.PrintMore
set_option linter.unusedVariables false
set_option linter.unusedSimpArgs false
def nextAt (sh : Shr) (j : Nat) : Int × Bool := nextR (sh.getD j zS).1 (sh.getD j zS).2
theorem bestTo_spec (sh : Shr) : ∀ k, ((bestTo sh k).1 = -1 ∧ ∀ j, j < k → (nextAt sh j).2 = false) ∨ ∃ j, j < k ∧ (bestTo sh k).1 = (j : Int) ∧ (nextAt sh j).2 = true
  | 0 => .inl ⟨rfl, fun j hj => absurd hj (Nat.not_lt_zero _)⟩
  | k + 1 => by
    have ih := bestTo_spec sh k
    have e : bestTo sh (k + 1) = bestStep k (bestTo sh k) (nextAt sh k) := rfl
    rw [e]
    unfold bestStep
    by_cases hc : ((nextAt sh k).2 && (decide ((bestTo sh k).1 < 0) || decide ((nextAt sh k).1 ≤ (bestTo sh k).2))) = true
    · rw [if_pos hc]
      exact .inr ⟨k, Nat.lt_succ_self k, rfl, by simp only [Bool.and_eq_true] at hc; exact hc.1⟩
    · rw [if_neg hc]
      rcases ih with ⟨h1, h2⟩ | ⟨j, h1, h2, h3⟩
      · refine .inl ⟨h1, fun j hj => ?_⟩
        rcases Nat.lt_succ_iff_lt_or_eq.1 hj with hj | rfl
        · exact h2 j hj
        · rw [h1] at hc
          cases hn : (nextAt sh j).2 with
          | false => rfl
          | true => rw [hn] at hc; simp at hc
      · exact .inr ⟨j, Nat.lt_succ_of_lt h1, h2, h3⟩
/-- A share in its curve's domain, of a valid curve. -/
def GoodC (p : S24 × Int) : Prop := validC p.1.f0 p.1.f1 p.1.f2 = true ∧ p.1.f0 ≤ p.2 ∧ p.2 ≤ p.1.f0 + (p.1.f2.length : Int)
theorem validC_parts {a0 a1 : Int} {l : List Int} (h : validC a0 a1 l = true) : -1048576 ≤ a0 ∧ a0 ≤ 1048576 ∧ -1099511627776 ≤ a1 ∧ a1 ≤ 1099511627776 ∧ l.length ≤ 64 ∧ sortedI l = true ∧ ∀ s ∈ l, -1048576 ≤ s ∧ s ≤ 1048576 := by
  unfold validC inB at h
  simp only [Bool.and_eq_true, decide_eq_true_eq] at h
  obtain ⟨⟨h1, h2⟩, ⟨h3, h4⟩, h5, h6, h7⟩ := h
  refine ⟨h1, h2, h3, h4, h5, h6, fun s hs => ?_⟩
  simp only [Bool.not_eq_true', List.any_eq_false] at h7
  have := h7 s hs
  simpa using this
theorem good_off {p : S24 × Int} (h : GoodC p) : wrap64 (p.2 - p.1.f0) = p.2 - p.1.f0 ∧ 0 ≤ p.2 - p.1.f0 ∧ p.2 - p.1.f0 ≤ (p.1.f2.length : Int) := by
  obtain ⟨hv, h1, h2⟩ := h
  obtain ⟨v1, v2, _, _, v5, _⟩ := validC_parts hv
  unfold wrap64
  omega
theorem next_more {p : S24 × Int} (h : GoodC p) : (nextR p.1 p.2).2 = decide (p.2 < p.1.f0 + (p.1.f2.length : Int)) := by
  obtain ⟨e, h1, h2⟩ := good_off h
  unfold nextR
  rw [e]
  by_cases hc : p.2 - p.1.f0 < (p.1.f2.length : Int)
  · rw [if_pos hc, decide_eq_true (by omega)]
  · rw [if_neg hc, decide_eq_false (by omega)]
def GoodS (sh : Shr) : Prop := ∀ p ∈ sh, GoodC p
def sumX (sh : Shr) : Int := (sh.map (fun p => p.2)).sum
def sumHi (sh : Shr) : Int := (sh.map (fun p => p.1.f0 + (p.1.f2.length : Int))).sum
theorem some_more : ∀ (sh : Shr), GoodS sh → sumX sh < sumHi sh → ∃ p ∈ sh, p.2 < p.1.f0 + (p.1.f2.length : Int)
  | [], _, h => by simp [sumX, sumHi] at h
  | p :: t, hg, h => by
    by_cases hp : p.2 < p.1.f0 + (p.1.f2.length : Int)
    · exact ⟨p, List.mem_cons_self, hp⟩
    · have hgp := (hg p List.mem_cons_self).2.2
      have h2 : sumX t < sumHi t := by
        simp only [sumX, sumHi, List.map_cons, List.sum_cons] at h ⊢
        omega
      obtain ⟨q, hq, hlt⟩ := some_more t (fun q hq => hg q (List.mem_cons_of_mem _ hq)) h2
      exact ⟨q, List.mem_cons_of_mem _ hq, hlt⟩
theorem getD_mem (sh : Shr) (j : Nat) (h : j < sh.length) : sh.getD j zS ∈ sh := by
  rw [List.getD_eq_getElem?_getD, List.getElem?_eq_getElem h]
  exact List.getElem_mem h
/-- While less than the most is divided, the best share is one that can grow. -/
theorem best_ok (sh : Shr) (hg : GoodS sh) (h : sumX sh < sumHi sh) : ∃ j, j < sh.length ∧ (bestTo sh sh.length).1 = (j : Int) ∧ (sh.getD j zS).2 < (sh.getD j zS).1.f0 + ((sh.getD j zS).1.f2.length : Int) := by
  rcases bestTo_spec sh sh.length with ⟨_, h2⟩ | ⟨j, h1, h2, h3⟩
  · obtain ⟨p, hp, hlt⟩ := some_more sh hg h
    obtain ⟨j, hj, e⟩ := List.mem_iff_getElem.1 hp
    have := h2 j hj
    unfold nextAt at this
    rw [next_more (hg _ (getD_mem sh j hj)), List.getD_eq_getElem?_getD, List.getElem?_eq_getElem hj] at this
    simp only [Option.getD_some, e] at this
    exact absurd hlt (of_decide_eq_false this)
  · refine ⟨j, h1, h2, ?_⟩
    unfold nextAt at h3
    rw [next_more (hg _ (getD_mem sh j h1))] at h3
    exact of_decide_eq_true h3
/-- One unit more to the share j. -/
def growAt (sh : Shr) (j : Nat) : Shr := sh.set j ((sh.getD j zS).1, (sh.getD j zS).2 + 1)
theorem growAt_len (sh : Shr) (j : Nat) : (growAt sh j).length = sh.length := by simp [growAt]
theorem growAt_good (sh : Shr) (j : Nat) (hg : GoodS sh) (hj : j < sh.length) (h : (sh.getD j zS).2 < (sh.getD j zS).1.f0 + ((sh.getD j zS).1.f2.length : Int)) : GoodS (growAt sh j) := by
  intro p hp
  rcases List.mem_or_eq_of_mem_set hp with hp | rfl
  · exact hg p hp
  · obtain ⟨g1, g2, g3⟩ := hg _ (getD_mem sh j hj)
    exact ⟨g1, by simp only; omega, by simp only; omega⟩
theorem sum_set : ∀ (l : List Int) (j : Nat) (x : Int), j < l.length → (l.set j x).sum = l.sum - l.getD j 0 + x
  | [], _, _, h => by simp at h
  | y :: t, 0, x, _ => by simp; omega
  | y :: t, j + 1, x, h => by
    have := sum_set t j x (by simpa using h)
    simp only [List.set_cons_succ, List.sum_cons, List.getD_cons_succ, this]
    omega
theorem growAt_sum (sh : Shr) (j : Nat) (hj : j < sh.length) : sumX (growAt sh j) = sumX sh + 1 ∧ sumHi (growAt sh j) = sumHi sh := by
  have e : sh[j]? = some (sh.getD j zS) := by rw [List.getD_eq_getElem?_getD, List.getElem?_eq_getElem hj]; rfl
  constructor
  · unfold sumX growAt
    rw [List.map_set, sum_set _ _ _ (by simpa using hj)]
    have : (sh.map (fun p => p.2)).getD j 0 = (sh.getD j zS).2 := by rw [List.getD_eq_getElem?_getD, List.getElem?_map, e]; rfl
    rw [this]
    simp only
    omega
  · unfold sumHi growAt
    rw [List.map_set, sum_set _ _ _ (by simpa using hj)]
    have : (sh.map (fun p => p.1.f0 + (p.1.f2.length : Int))).getD j 0 = (sh.getD j zS).1.f0 + ((sh.getD j zS).1.f2.length : Int) := by rw [List.getD_eq_getElem?_getD, List.getElem?_map, e]; rfl
    rw [this]
    simp only
    omega
/-- n units, one by one, each to the best share. -/
def fillS : Nat → Shr → Shr
  | 0, sh => sh
  | n + 1, sh => fillS n (growAt sh (bestTo sh sh.length).1.toNat)
theorem fillS_len : ∀ (n : Nat) (sh : Shr), (fillS n sh).length = sh.length
  | 0, _ => rfl
  | n + 1, sh => (fillS_len n _).trans (growAt_len sh _)
end Go.Proofs.Ytingjpcgehgiiaa.Pr
end
section
namespace Go.Proofs.Ytingjpcgehgiiaa.Pr
open Go.RowKit Go.Proofs.YtingjpcgehgiiaaW.PrintWords Go.Proofs.YtingjpcgehgiiaaW.PrintLast Go.Proofs.YtingjpcgehgiiaaW.PrintMore
set_option linter.unusedVariables false
set_option linter.unusedSimpArgs false
def atP (p : S24 × Int) : Int := addAll p.1.f1 (p.1.f2.take (p.2 - p.1.f0).toNat)
def loPr (p : S24 × Int) : Int := if 0 < p.2 - p.1.f0 then rd p.1.f2 (p.2 - p.1.f0 - 1) else -1048576
def hiPr (p : S24 × Int) : Int := if p.2 - p.1.f0 < (p.1.f2.length : Int) then rd p.1.f2 (p.2 - p.1.f0) else 1048576
theorem at_good {p : S24 × Int} (h : GoodC p) : curve_at.f p.1.f0 p.1.f1 p.1.f2 p.2 = some (atP p) := by
  obtain ⟨e, h1, h2⟩ := good_off h
  unfold curve_at.f
  rw [e, if_pos ⟨h1, h2⟩]
  rfl
theorem prices_good {p : S24 × Int} (h : GoodC p) (k : Nat) : curve_prices.f (k + 1) p.1.f0 p.1.f1 p.1.f2 p.2 = some (loPr p, hiPr p) := by
  obtain ⟨e, h1, h2⟩ := good_off h
  obtain ⟨hv, _, _⟩ := h
  obtain ⟨_, _, _, _, v5, _⟩ := validC_parts hv
  unfold curve_prices.f
  simp only [curve_prices.j0]
  rw [e]
  unfold loPr hiPr
  have e2 : wrap64 (p.2 - p.1.f0 - 1) = p.2 - p.1.f0 - 1 := by unfold wrap64; omega
  rw [e2]
  by_cases hc : 0 < p.2 - p.1.f0
  · rw [if_pos hc, if_pos (show (0 : Int) ≤ p.2 - p.1.f0 - 1 by omega), if_pos (show p.2 - p.1.f0 - 1 < (p.1.f2.length : Int) by omega), if_pos hc]
    by_cases hd : p.2 - p.1.f0 < (p.1.f2.length : Int)
    · rw [if_pos hd, if_pos h1, if_pos hd]
    · rw [if_neg hd, if_neg hd]
  · rw [if_neg hc, if_neg hc]
    by_cases hd : p.2 - p.1.f0 < (p.1.f2.length : Int)
    · rw [if_pos hd, if_pos h1, if_pos hd]
    · rw [if_neg hd, if_neg hd]
def sumTo (sh : Shr) (k : Nat) : Int := (sh.take k).foldl (fun v p => wrap64 (v + atP p)) 0
def priceTo (sh : Shr) (k : Nat) : Int := (sh.take k).foldl (fun v p => max v (loPr p)) (-1048576)
theorem take_snocS (l : Shr) (k : Nat) (h : k < l.length) : l.take (k + 1) = l.take k ++ [l.getD k zS] := by
  rw [List.take_add_one, List.getElem?_eq_getElem h, List.getD_eq_getElem?_getD, List.getElem?_eq_getElem h]
  rfl
theorem sumTo_succ (sh : Shr) (k : Nat) (h : k < sh.length) : sumTo sh (k + 1) = wrap64 (sumTo sh k + atP (sh.getD k zS)) := by
  unfold sumTo
  rw [take_snocS sh k h, List.foldl_append]
  rfl
theorem priceTo_succ (sh : Shr) (k : Nat) (h : k < sh.length) : priceTo sh (k + 1) = max (priceTo sh k) (loPr (sh.getD k zS)) := by
  unfold priceTo
  rw [take_snocS sh k h, List.foldl_append]
  rfl
theorem xs_succ (sh : Shr) (k : Nat) (h : k < sh.length) : (sh.take (k + 1)).map (fun p => p.2) = (sh.take k).map (fun p => p.2) ++ [(sh.getD k zS).2] := by
  rw [take_snocS sh k h, List.map_append]
  rfl
/-- A world in which all that lay in w still lies. -/
structure Bel (w : World) where
  W : World
  h : Below w.heap.size w W
instance (w : World) : Nonempty (Bel w) := ⟨⟨w, Below.refl _ w⟩⟩
theorem Bel.start (w : World) : ∃ p : Bel w, ({ w with drawn := w.drawn + 1 } : World) = p.W := ⟨⟨_, (Drawn0.refl w |>.step 1).below⟩, rfl⟩
theorem wp_region_bel {P : Program} {id : Nat} {Q : Exit → Act → World → Prop} {a : Act} {w : World} {l : List Oper} (hm : P.follows .mixedOrders = true) (hB : Region.lexB .any l.toArray = true)
    (h : wpQuiet P l.toArray (fun w' => ∃ p : Bel w, w' = p.W) (fun a' => ∀ w', (∃ p : Bel w, w' = p.W) → Q .normal a' w') l a) : (Code.region id l.toArray true).wp P Q a w :=
  wp_region_quiet (C := fun w' => ∃ p : Bel w, w' = p.W) hm hB (Bel.start w) (by simpa using h)
theorem Bel.cell {w : World} {a : Addr} {v : Value} (h : w.cell? a = some v) (p : Bel w) : p.W.cell? a = some v := (p.h.cell (World.block_lt_of_cell? _ _ h)).trans h
theorem Calls.bel_of {P : Program} {f : FuncId} {args : Array Value} {w : World} {p : Bel w} {v : Value}
    (h : Calls P f args p.W fun e w' => e = .returned v ∧ Below p.W.heap.size p.W w') : Calls P f args p.W fun e w'' => e = .returned v ∧ ∃ q : Bel w, w'' = q.W :=
  h.mono fun _ w' ⟨he, hb⟩ => ⟨he, ⟨w', below_then p.h p.h.size hb⟩, rfl⟩
end Go.Proofs.Ytingjpcgehgiiaa.Pr
end
section
namespace Go.Proofs.Ytingjpcgehgiiaa.Pr
open Go.RowKit Go.Proofs.YtingjpcgehgiiaaW.PrintWords Go.Proofs.YtingjpcgehgiiaaW.PrintLast Go.Proofs.YtingjpcgehgiiaaW.PrintMore
set_option linter.unusedVariables false
set_option linter.unusedSimpArgs false
/-- The sum of a list. -/
def tot : List Int → Int
  | [] => 0
  | x :: t => x + tot t
theorem tot_append : ∀ a b : List Int, tot (a ++ b) = tot a + tot b
  | [], b => by simp [tot]
  | x :: t, b => by rw [List.cons_append, tot, tot, tot_append t b]; omega
theorem mul_succ_len (p : Int) (x : Int) (t : List Int) : p * ((x :: t).length : Int) = p * (t.length : Int) + p := by
  rw [List.length_cons]; push_cast; rw [Int.mul_add, Int.mul_one]
theorem tot_bound {m : Int} (h0 : 0 ≤ m) : ∀ {l : List Int}, (∀ s ∈ l, -m ≤ s ∧ s ≤ m) → -(m * (l.length : Int)) ≤ tot l ∧ tot l ≤ m * (l.length : Int)
  | [], _ => by simp [tot]
  | x :: t, h => by
    have h1 := tot_bound h0 (l := t) fun s hs => h s (List.mem_cons_of_mem _ hs)
    have h2 := h x List.mem_cons_self
    rw [mul_succ_len, tot]
    omega
theorem addAll_tot : ∀ (l : List Int) (v : Int), (∀ s ∈ l, -1048576 ≤ s ∧ s ≤ 1048576) → -4611686018427387904 ≤ v - 1048576 * (l.length : Int) → v + 1048576 * (l.length : Int) ≤ 4611686018427387904 → addAll v l = v + tot l
  | [], v, _, _, _ => by simp [addAll, tot]
  | x :: t, v, h, h1, h2 => by
    have h3 := h x List.mem_cons_self
    rw [mul_succ_len] at h1 h2
    have e : wrap64 (v + x) = v + x := by unfold wrap64; omega
    have e2 : addAll v (x :: t) = addAll (wrap64 (v + x)) t := rfl
    rw [e2, e, addAll_tot t (v + x) (fun s hs => h s (List.mem_cons_of_mem _ hs)) (by omega) (by omega), tot]
    omega
/-- A curve is valid. -/
def Vc (c : S24) : Prop := validC c.f0 c.f1 c.f2 = true
instance (c : S24) : Decidable (Vc c) := inferInstanceAs (Decidable (_ = true))
def inC (c : S24) (x : Int) : Prop := c.f0 ≤ x ∧ x ≤ c.f0 + (c.f2.length : Int)
instance (c : S24) (x : Int) : Decidable (inC c x) := inferInstanceAs (Decidable (_ ∧ _))
/-- The value at a number. -/
def valC (c : S24) (x : Int) : Int := c.f1 + tot (c.f2.take (x - c.f0).toNat)
theorem rd_nat (l : List Int) (i : Nat) (h : i < l.length) : rd l (i : Int) = l[i] := by
  unfold rd
  rw [Int.toNat_natCast, List.getD_eq_getElem?_getD, List.getElem?_eq_getElem h]
  rfl
theorem vc_parts {c : S24} (h : Vc c) : -1048576 ≤ c.f0 ∧ c.f0 ≤ 1048576 ∧ -1099511627776 ≤ c.f1 ∧ c.f1 ≤ 1099511627776 ∧ c.f2.length ≤ 64 ∧ sortedI c.f2 = true ∧ ∀ s ∈ c.f2, -1048576 ≤ s ∧ s ≤ 1048576 := validC_parts h
theorem val_bound {c : S24} (h : Vc c) (x : Int) : -1099578736640 ≤ valC c x ∧ valC c x ≤ 1099578736640 := by
  obtain ⟨_, _, h3, h4, h5, _, h7⟩ := vc_parts h
  have := tot_bound (m := 1048576) (by decide) (l := c.f2.take (x - c.f0).toNat) fun s hs => h7 s (List.mem_of_mem_take hs)
  have hl : (c.f2.take (x - c.f0).toNat).length ≤ 64 := by rw [List.length_take]; omega
  unfold valC
  omega
theorem at_val {c : S24} (h : Vc c) {x : Int} (hx : inC c x) : curve_at.f c.f0 c.f1 c.f2 x = some (valC c x) := by
  obtain ⟨h1, h2, h3, h4, h5, _, h7⟩ := vc_parts h
  obtain ⟨hx1, hx2⟩ := hx
  have e : wrap64 (x - c.f0) = x - c.f0 := by unfold wrap64; omega
  unfold curve_at.f valC
  have hl : (c.f2.take (x - c.f0).toNat).length ≤ 64 := by rw [List.length_take]; omega
  rw [e, if_pos ⟨by omega, by omega⟩, addAll_tot _ _ (fun s hs => h7 s (List.mem_of_mem_take hs)) (by omega) (by omega)]
end Go.Proofs.Ytingjpcgehgiiaa.Pr
end
section
namespace Go.Proofs.Ytingjpcgehgiiaa.Pr
open Go.RowKit Go.Proofs.YtingjpcgehgiiaaW.PrintWords Go.Proofs.YtingjpcgehgiiaaW.PrintLast Go.Proofs.YtingjpcgehgiiaaW.PrintMore
attribute [local go_sem] max2_int min2_int max_two min_two max_three min_three max_four min_four   -- for this text's walks alone
set_option linter.unusedVariables false
set_option linter.unusedSimpArgs false
def kimberlitelaw03_same.l0 : Nat → List Int → List Int → Int → Option (Bool)
 | 0, _, _, _ => none
 | k + 1, x0, x1, x5 => if x5 < (x0.length : Int) then (if 0 ≤ x5 then (if x5 < (x1.length : Int) then (if (rd x0 x5) = (rd x1 x5) then (kimberlitelaw03_same.l0 k x0 x1 (wrap64 (x5 + 1))) else (some false)) else (none)) else (none)) else (some true)
def kimberlitelaw03_same.f (k : Nat) (l0 : List Int) (l1 : List Int) : Option (Bool) := if (l0.length : Int) = (l1.length : Int) then (kimberlitelaw03_same.l0 k l0 l1 0) else (some false)
theorem kimberlitelaw03_same.mono_l : ∀ k, (∀ y0 y1 y2, LeO (kimberlitelaw03_same.l0 k y0 y1 y2) (kimberlitelaw03_same.l0 (k + 1) y0 y1 y2))
 | 0 => fun _ _ _ r h => by simp [kimberlitelaw03_same.l0] at h
 | k + 1 => by
  have ih0 := kimberlitelaw03_same.mono_l k
  · intro y0 y1 y2
    unfold kimberlitelaw03_same.l0
    repeat' first
    | (with_reducible exact ih0 _ _ _)
    | (with_reducible exact LeO.refl _)
    | (with_reducible exact LeO.none _)
    | (with_reducible refine LeO.ite ?_ ?_)
    | (with_reducible refine LeO.bind ?_ (fun _ => ?_))
    | exact ih0 _ _ _
    | exact LeO.none _
    | refine LeO.ite ?_ ?_
    | refine LeO.bind ?_ (fun _ => ?_)
theorem kimberlitelaw03_same.mono : ∀ a0 a1 k, LeO (kimberlitelaw03_same.f k a0 a1) (kimberlitelaw03_same.f (k + 1) a0 a1) := by
 intro a0 a1 k
 have ih0 := kimberlitelaw03_same.mono_l k
 unfold kimberlitelaw03_same.f
 repeat' first
  | (with_reducible exact ih0 _ _ _)
  | (with_reducible exact LeO.refl _)
  | (with_reducible exact LeO.none _)
  | (with_reducible refine LeO.ite ?_ ?_)
  | (with_reducible refine LeO.bind ?_ (fun _ => ?_))
  | exact ih0 _ _ _
  | exact LeO.none _
  | refine LeO.ite ?_ ?_
  | refine LeO.bind ?_ (fun _ => ?_)
set_option maxHeartbeats 8000000 in
set_option maxRecDepth 100000 in
theorem kimberlitelaw03_same.calls (k : Nat) (A0 : Option Addr) (c0 : Nat) (l0 : List Int) (A1 : Option Addr) (c1 : Nat) (l1 : List Int) (r : Bool) (w : World) (hr0 : Kd.C (Kd.int .i64) w A0 l0.length l0) (hc0 : l0.length ≤ c0) (hr1 : Kd.C (Kd.int .i64) w A1 l1.length l1) (hc1 : l1.length ≤ c1) (h : kimberlitelaw03_same.f k l0 l1 = some r) :
 Calls Try.prog 24 #[.slice A0 l0.length c0, .slice A1 l1.length c1] w fun e w' => e = .returned (.bool r) ∧ Drawn0 w w' := by
 have HR0 := Aside0.mk hr0
 have HC0 := Aside0.mk hc0
 clear hr0 hc0
 have HR1 := Aside0.mk hr1
 have HC1 := Aside0.mk hc1
 clear hr1 hc1
 have H : (if (l0.length : Int) = (l1.length : Int) then (kimberlitelaw03_same.l0 k l0 l1 0) else (some false)) = some r := h
 clear h
 by_cases c3 : (l0.length : Int) = (l1.length : Int)
 · rw [if_pos c3] at H
   have c3b0 : ((l0.length : Int) == (l1.length : Int)) = true := beq_iff_eq.mpr c3
   have c3b1 : ((l0.length : Int) != (l1.length : Int)) = false := bne_eq_false_iff_eq.mpr c3
   have c3b2 : (l0.length == l1.length) = true := by first | simpa using c3 | (simp at c3 ⊢; omega)
   clear c3
   have H' := Aside0.mk H
   clear H
   go_enter Try.func24, Try.ntmps24
   go_wp2
   repeat (go_quiet (fail); try go_wp2)
   go_loopg [5] k (fun kq v5 w' => ∃ (x5_1 : Int), v5 = .int .i64 x5_1 ∧ Aside0 (kimberlitelaw03_same.l0 kq l0 l1 x5_1 = some r) ∧ Aside0 (kq ≤ k) ∧ Drawn0 w w')
   case atStart => exact ⟨(0), (by first | rfl | (simp; done) | (simp [*]; done)), H', ⟨Nat.le_refl _⟩, by repeat (first | exact Drawn0.refl _ | apply Drawn0.step)⟩
   case round =>
    clear H'
    try clear c1
    try clear c2
    try clear p2
    try clear c3
    try clear c3b0
    try clear c3b1
    try clear c3b2
    obtain ⟨x5_1, rfl, HA, HK1, ⟨m1, rfl⟩⟩ := hrel
    cases gk with
    | zero => exact absurd HA.out (by simp [kimberlitelaw03_same.l0])
    | succ k1 =>
     have H := HA.out
     clear HA
     simp only [kimberlitelaw03_same.l0] at H
     by_cases c4 : x5_1 < (l0.length : Int)
     · rw [if_pos c4] at H
       have c4b0 : decide (x5_1 < (l0.length : Int)) = true := decide_eq_true c4
       clear c4
       by_cases c5 : 0 ≤ x5_1
       · rw [if_pos c5] at H
         have c5b0 : decide (0 ≤ x5_1) = true := decide_eq_true c5
         clear c5
         by_cases c6 : x5_1 < (l1.length : Int)
         · rw [if_pos c6] at H
           have c6b0 : decide (x5_1 < (l1.length : Int)) = true := decide_eq_true c6
           clear c6
           by_cases c7 : (rd l0 x5_1) = (rd l1 x5_1)
           · rw [if_pos c7] at H
             have c7b0 : ((rd l0 x5_1) == (rd l1 x5_1)) = true := beq_iff_eq.mpr c7
             have c7b1 : ((rd l0 x5_1) != (rd l1 x5_1)) = false := bne_eq_false_iff_eq.mpr c7
             clear c7
             have H' := Aside0.mk H
             clear H
             have p110 : 0 ≤ (x5_1 : Int) := of_decide_eq_true (by first | (with_reducible assumption) | assumption)
             have q110 : x5_1 < (l0.length : Int) := of_decide_eq_true (by first | (with_reducible assumption) | assumption)
             obtain ⟨ad110, e110, hx110_0⟩ := Kd.at_int HR0.out x5_1 p110 q110
             cases e110
             replace p110 := eq_true p110
             replace q110 := eq_true q110
             have p111 : 0 ≤ (x5_1 : Int) := of_decide_eq_true (by first | (with_reducible assumption) | assumption)
             have q111 : x5_1 < (l1.length : Int) := of_decide_eq_true (by first | (with_reducible assumption) | assumption)
             obtain ⟨ad111, e111, hx111_0⟩ := Kd.at_int HR1.out x5_1 p111 q111
             cases e111
             replace p111 := eq_true p111
             replace q111 := eq_true q111
             go_wp2
             repeat (go_quiet (fail); try go_wp2)
             go_roundg k1
             case measure => have := HK1.out; omega
             case rel => exact ⟨(wrap64 (x5_1 + 1)), (by first | rfl | (simp; done) | (simp [*]; done)), H', ⟨by have := HK1.out; omega⟩, by repeat (first | exact Drawn0.refl _ | apply Drawn0.step)⟩
           · rw [if_neg c7] at H
             have c7b0 : ((rd l0 x5_1) == (rd l1 x5_1)) = false := beq_eq_false_iff_ne.mpr c7
             have c7b1 : ((rd l0 x5_1) != (rd l1 x5_1)) = true := bne_iff_ne.mpr c7
             obtain rfl := Option.some.inj H
             have p110 : 0 ≤ (x5_1 : Int) := of_decide_eq_true (by first | (with_reducible assumption) | assumption)
             have q110 : x5_1 < (l0.length : Int) := of_decide_eq_true (by first | (with_reducible assumption) | assumption)
             obtain ⟨ad110, e110, hx110_0⟩ := Kd.at_int HR0.out x5_1 p110 q110
             cases e110
             replace p110 := eq_true p110
             replace q110 := eq_true q110
             have p111 : 0 ≤ (x5_1 : Int) := of_decide_eq_true (by first | (with_reducible assumption) | assumption)
             have q111 : x5_1 < (l1.length : Int) := of_decide_eq_true (by first | (with_reducible assumption) | assumption)
             obtain ⟨ad111, e111, hx111_0⟩ := Kd.at_int HR1.out x5_1 p111 q111
             cases e111
             replace p111 := eq_true p111
             replace q111 := eq_true q111
             go_wp2
             repeat (go_quiet (fail); try go_wp2)
             go_ret
             exact ⟨by first | rfl | (simp; done) | (simp [*]; done), by repeat (first | exact Drawn0.refl _ | apply Drawn0.step)⟩
         · rw [if_neg c6] at H
           exact absurd H (by simp)
       · rw [if_neg c5] at H
         exact absurd H (by simp)
     · rw [if_neg c4] at H
       have c4b0 : decide (x5_1 < (l0.length : Int)) = false := decide_eq_false c4
       clear c4
       obtain rfl := Option.some.inj H
       go_wp2
       repeat (go_quiet (fail); try go_wp2)
       go_ret
       exact ⟨by first | rfl | (simp; done) | (simp [*]; done), by repeat (first | exact Drawn0.refl _ | apply Drawn0.step)⟩
 · rw [if_neg c3] at H
   have c3b0 : ((l0.length : Int) == (l1.length : Int)) = false := beq_eq_false_iff_ne.mpr c3
   have c3b1 : ((l0.length : Int) != (l1.length : Int)) = true := bne_iff_ne.mpr c3
   have c3b2 : (l0.length == l1.length) = false := by first | simpa using c3 | (simp at c3 ⊢; omega)
   obtain rfl := Option.some.inj H
   go_enter Try.func24, Try.ntmps24
   go_wp2
   repeat (go_quiet (fail); try go_wp2)
   go_ret
   exact ⟨by first | rfl | (simp; done) | (simp [*]; done), by repeat (first | exact Drawn0.refl _ | apply Drawn0.step)⟩
def curve_has.f (a0_0 : Int) (a0_1 : Int) (l0_2 : List Int) (a1 : Int) : Option (Bool) := if a1 ≥ a0_0 then ((curve_to.f a0_0 a0_1 l0_2).bind fun t113 => (some (decide (a1 ≤ t113)))) else (some false)
set_option maxHeartbeats 8000000 in
set_option maxRecDepth 100000 in
theorem curve_has.calls (a0_0 : Int) (a0_1 : Int) (A0_2 : Option Addr) (c0_2 : Nat) (l0_2 : List Int) (a1 : Int) (r : Bool) (w : World) (hr0_2 : Kd.C (Kd.int .i64) w A0_2 l0_2.length l0_2) (hc0_2 : l0_2.length ≤ c0_2) (h : curve_has.f a0_0 a0_1 l0_2 a1 = some r) :
 Calls Try.prog 69 #[.agg #[.int .i64 a0_0, .int .i64 a0_1, .slice A0_2 l0_2.length c0_2], .int .i64 a1] w fun e w' => e = .returned (.bool r) ∧ Below w.heap.size w w' := by
 have hu24 := Try.underlying24
 have HR0_2 := Aside0.mk hr0_2
 have HC0_2 := Aside0.mk hc0_2
 clear hr0_2 hc0_2
 have HB := Aside0.mk (Below.refl w.heap.size w)
 have H : (if a1 ≥ a0_0 then ((curve_to.f a0_0 a0_1 l0_2).bind fun t113 => (some (decide (a1 ≤ t113)))) else (some false)) = some r := h
 clear h
 by_cases c3 : a1 ≥ a0_0
 · rw [if_pos c3] at H
   have c3b0 : decide (a0_0 ≤ a1) = true := decide_eq_true c3
   clear c3
   replace H := Option.bind_eq_some_iff.mp H
   obtain ⟨t113, A40, H⟩ := H
   replace H : (some (decide (a1 ≤ t113))) = some r := H
   have A4 := Aside0.mk A40
   clear A40
   obtain rfl := Option.some.inj H
   go_enter Try.func69, Try.ntmps69
   go_wp2_with (first | ((with_reducible refine gate_dst (N := 2) rfl ?_); refine box_event ?hg (N := 2) ?hd (cs := #[.int .i64 a0_0, .int .i64 a0_1, .slice A0_2 l0_2.length c0_2]) (t := 24) ?hr ?_; (case hd => rfl); (case hg => rfl); (case hr => first | (go_simp; done) | (go_simp; rfl)); intro gb112 hg w5 hbox hb; have n0_ := Aside0.mk (below_step (by repeat (first | (with_reducible first | exact HB.out | apply below_alloc | apply pw_below_drewN | apply below_drew1) | exact HB.out)) hb); have n1_ := Aside0.mk (hbox); have n2_ := Aside0.mk ((by rw [hg]; exact (below_size (by repeat (first | (with_reducible first | exact HB.out | apply below_alloc | apply pw_below_drewN | apply below_drew1) | exact HB.out))) : w.heap.size ≤ gb112)); have n3_ := Aside0.mk ((by rw [hg]; exact (below_size (by repeat (first | (with_reducible first | exact HB.out | apply below_alloc | apply pw_below_drewN | apply below_drew1) | exact HB.out))) : w.heap.size ≤ gb112)); clear HB; have HB := n0_; have BK112 := n1_; have GW112 := n2_; have GE112 := n3_; clear n0_ n1_ n2_ n3_; clear hb hbox hg; have hcz6_0 : w5.cell? ⟨gb112, 0, none⟩ = some (.int .i64 a0_0) := (blk_cell BK112.out 0).trans rfl; have hcz6_1 : w5.cell? ⟨gb112, 1, none⟩ = some (.int .i64 a0_1) := (blk_cell BK112.out 1).trans rfl; have hcz6_2 : w5.cell? ⟨gb112, 2, none⟩ = some (.slice A0_2 l0_2.length c0_2) := (blk_cell BK112.out 2).trans rfl; have hfz6_0 := blk_frozen BK112.out 0; have hfz6_1 := blk_frozen BK112.out 1; have hfz6_2 := blk_frozen BK112.out 2) | (go_at_call 58; (with_reducible refine (curve_to.calls a0_0 a0_1 _ _ l0_2 t113 _ ?side1 ?side2 A4.out).mono ?_); (case side1 => repeat (first | exact (Kd.C_below HR0_2.out HB.out) | (with_reducible refine Kd.C_alloc ?_ _) | (with_reducible refine Kd.C_drewN ?_ _) | (with_reducible refine Kd.C_drew ?_))); (case side2 => exact HC0_2.out); rintro e w7 ⟨rfl, hb⟩; have n0_ := Aside0.mk (blk_below (g := gb112) (o := .cells #[.int .i64 a0_0, .int .i64 a0_1, .slice A0_2 l0_2.length c0_2] 24 (0, 0)) (by (with_reducible repeat (first | refine blk_drewN ?_ _ | refine blk_drew ?_ | refine blk_alloc ?_ _)); exact BK112.out) hb); have n1_ := Aside0.mk (below_step (by repeat (first | (with_reducible first | exact HB.out | apply below_alloc | apply pw_below_drewN | apply below_drew1 | refine below_set ?_ GE112.out) | exact HB.out)) hb); clear BK112; clear HB; have BK112 := n0_; have HB := n1_; clear n0_ n1_; (try clear hb); (try clear hb2); (try clear hk); (try clear hi)))
   go_ret
   exact ⟨by first | rfl | (simp [errW_none, errW_some] <;> rfl) | (simp [*, errW_none, errW_some] <;> rfl), by repeat (first | (with_reducible first | exact HB.out | apply below_alloc | apply pw_below_drewN | apply below_drew1 | refine below_set ?_ GE112.out) | exact HB.out)⟩
 · rw [if_neg c3] at H
   have c3b0 : decide (a0_0 ≤ a1) = false := decide_eq_false c3
   clear c3
   obtain rfl := Option.some.inj H
   go_enter Try.func69, Try.ntmps69
   go_wp2_with (first | ((with_reducible refine gate_dst (N := 2) rfl ?_); refine box_event ?hg (N := 2) ?hd (cs := #[.int .i64 a0_0, .int .i64 a0_1, .slice A0_2 l0_2.length c0_2]) (t := 24) ?hr ?_; (case hd => rfl); (case hg => rfl); (case hr => first | (go_simp; done) | (go_simp; rfl)); intro gb112 hg w8 hbox hb; have n0_ := Aside0.mk (below_step (by repeat (first | (with_reducible first | exact HB.out | apply below_alloc | apply pw_below_drewN | apply below_drew1) | exact HB.out)) hb); have n1_ := Aside0.mk (hbox); have n2_ := Aside0.mk ((by rw [hg]; exact (below_size (by repeat (first | (with_reducible first | exact HB.out | apply below_alloc | apply pw_below_drewN | apply below_drew1) | exact HB.out))) : w.heap.size ≤ gb112)); have n3_ := Aside0.mk ((by rw [hg]; exact (below_size (by repeat (first | (with_reducible first | exact HB.out | apply below_alloc | apply pw_below_drewN | apply below_drew1) | exact HB.out))) : w.heap.size ≤ gb112)); clear HB; have HB := n0_; have BK112 := n1_; have GW112 := n2_; have GE112 := n3_; clear n0_ n1_ n2_ n3_; clear hb hbox hg; have hcz9_0 : w8.cell? ⟨gb112, 0, none⟩ = some (.int .i64 a0_0) := (blk_cell BK112.out 0).trans rfl; have hcz9_1 : w8.cell? ⟨gb112, 1, none⟩ = some (.int .i64 a0_1) := (blk_cell BK112.out 1).trans rfl; have hcz9_2 : w8.cell? ⟨gb112, 2, none⟩ = some (.slice A0_2 l0_2.length c0_2) := (blk_cell BK112.out 2).trans rfl; have hfz9_0 := blk_frozen BK112.out 0; have hfz9_1 := blk_frozen BK112.out 1; have hfz9_2 := blk_frozen BK112.out 2))
   go_ret
   exact ⟨by first | rfl | (simp [errW_none, errW_some] <;> rfl) | (simp [*, errW_none, errW_some] <;> rfl), by repeat (first | (with_reducible first | exact HB.out | apply below_alloc | apply pw_below_drewN | apply below_drew1 | refine below_set ?_ GE112.out) | exact HB.out)⟩
def slices_isNaN_int.f (a0 : Int) : Option (Bool) := some (a0 != a0)
set_option maxHeartbeats 8000000 in
set_option maxRecDepth 100000 in
theorem slices_isNaN_int.calls (a0 : Int) (r : Bool) (w : World) (h : slices_isNaN_int.f a0 = some r) :
 Calls Try.prog 99 #[.int .i64 a0] w fun e w' => e = .returned (.bool r) ∧ Drawn0 w w' := by
 have H : (some (a0 != a0)) = some r := h
 clear h
 obtain rfl := Option.some.inj H
 go_enter Try.func99, Try.ntmps99
 go_wp2
 go_ret
 exact ⟨by first | rfl | (simp; done) | (simp [*]; done), by repeat (first | exact Drawn0.refl _ | apply Drawn0.step)⟩
end Go.Proofs.Ytingjpcgehgiiaa.Pr
end
section
namespace Go.Proofs.Ytingjpcgehgiiaa.Pr
open Go.RowKit Go.Proofs.YtingjpcgehgiiaaW.PrintWords Go.Proofs.YtingjpcgehgiiaaW.PrintLast Go.Proofs.YtingjpcgehgiiaaW.PrintMore
attribute [local go_sem] max2_int min2_int max_two min_two max_three min_three max_four min_four   -- for this text's walks alone
set_option linter.unusedVariables false
set_option linter.unusedSimpArgs false
def slices_BinarySearch_int_int.l0 : Nat → List Int → Int → Int → Int → Int → Option (Int × Bool)
 | 0, _, _, _, _, _ => none
 | k + 1, x0, x1, x6, x7, x8 => if x7 < x8 then (if 0 ≤ (wrap64 ((IntKind.u64.wrap (wrap64 (x7 + x8))) / 2)) then (if (wrap64 ((IntKind.u64.wrap (wrap64 (x7 + x8))) / 2)) < (x0.length : Int) then ((cmp_Less_int.f (rd x0 (wrap64 ((IntKind.u64.wrap (wrap64 (x7 + x8))) / 2))) x1).bind fun t123 => (if t123 = true then (slices_BinarySearch_int_int.l0 k x0 x1 x6 (wrap64 ((wrap64 ((IntKind.u64.wrap (wrap64 (x7 + x8))) / 2)) + 1)) x8) else (slices_BinarySearch_int_int.l0 k x0 x1 x6 x7 (wrap64 ((IntKind.u64.wrap (wrap64 (x7 + x8))) / 2))))) else (none)) else (none)) else (if x7 < x6 then (if 0 ≤ x7 then (if x7 < (x0.length : Int) then (if (rd x0 x7) = x1 then (some (x7, true)) else ((slices_isNaN_int.f (rd x0 x7)).bind fun t126 => (if t126 = true then ((slices_isNaN_int.f x1).bind fun t127 => (some (x7, t127))) else (some (x7, false))))) else (none)) else (none)) else (some (x7, false)))
def slices_BinarySearch_int_int.f (k : Nat) (l0 : List Int) (a1 : Int) : Option (Int × Bool) := slices_BinarySearch_int_int.l0 k l0 a1 (l0.length : Int) 0 (l0.length : Int)
theorem slices_BinarySearch_int_int.mono_l : ∀ k, (∀ y0 y1 y2 y3 y4, LeO (slices_BinarySearch_int_int.l0 k y0 y1 y2 y3 y4) (slices_BinarySearch_int_int.l0 (k + 1) y0 y1 y2 y3 y4))
 | 0 => fun _ _ _ _ _ r h => by simp [slices_BinarySearch_int_int.l0] at h
 | k + 1 => by
  have ih0 := slices_BinarySearch_int_int.mono_l k
  · intro y0 y1 y2 y3 y4
    unfold slices_BinarySearch_int_int.l0
    repeat' first
    | (with_reducible exact ih0 _ _ _ _ _)
    | (with_reducible exact LeO.refl _)
    | (with_reducible exact LeO.none _)
    | (with_reducible refine LeO.ite ?_ ?_)
    | (with_reducible refine LeO.bind ?_ (fun _ => ?_))
    | exact ih0 _ _ _ _ _
    | exact LeO.none _
    | refine LeO.ite ?_ ?_
    | refine LeO.bind ?_ (fun _ => ?_)
theorem slices_BinarySearch_int_int.mono : ∀ a0 a1 k, LeO (slices_BinarySearch_int_int.f k a0 a1) (slices_BinarySearch_int_int.f (k + 1) a0 a1) := by
 intro a0 a1 k
 have ih0 := slices_BinarySearch_int_int.mono_l k
 unfold slices_BinarySearch_int_int.f
 repeat' first
  | (with_reducible exact ih0 _ _ _ _ _)
  | (with_reducible exact LeO.refl _)
  | (with_reducible exact LeO.none _)
  | (with_reducible refine LeO.ite ?_ ?_)
  | (with_reducible refine LeO.bind ?_ (fun _ => ?_))
  | exact ih0 _ _ _ _ _
  | exact LeO.none _
  | refine LeO.ite ?_ ?_
  | refine LeO.bind ?_ (fun _ => ?_)
set_option maxHeartbeats 8000000 in
set_option maxRecDepth 100000 in
theorem slices_BinarySearch_int_int.calls (k : Nat) (A0 : Option Addr) (c0 : Nat) (l0 : List Int) (a1 : Int) (r1 : Int) (r2 : Bool) (w : World) (hr0 : Kd.C (Kd.int .i64) w A0 l0.length l0) (hc0 : l0.length ≤ c0) (h : slices_BinarySearch_int_int.f k l0 a1 = some (r1, r2)) :
 Calls Try.prog 86 #[.slice A0 l0.length c0, .int .i64 a1] w fun e w' => e = .returned (.tuple #[.int .i64 r1, .bool r2]) ∧ Drawn0 w w' := by
 have HR0 := Aside0.mk hr0
 have HC0 := Aside0.mk hc0
 clear hr0 hc0
 have H : (slices_BinarySearch_int_int.l0 k l0 a1 (l0.length : Int) 0 (l0.length : Int)) = some (r1, r2) := h
 clear h
 have H' := Aside0.mk H
 clear H
 go_enter Try.func86, Try.ntmps86
 go_wp2
 go_loopg [7, 8] k (fun kq v7 v8 w' => ∃ (x7_1 : Int) (x8_1 : Int), v7 = .int .i64 x7_1 ∧ v8 = .int .i64 x8_1 ∧ Aside0 (slices_BinarySearch_int_int.l0 kq l0 a1 (l0.length : Int) x7_1 x8_1 = some (r1, r2)) ∧ Aside0 (kq ≤ k) ∧ Drawn0 w w')
 case atStart => exact ⟨(0), ((l0.length : Int)), (by first | rfl | (simp; done) | (simp [*]; done)), (by first | rfl | (simp; done) | (simp [*]; done)), H', ⟨Nat.le_refl _⟩, by repeat (first | exact Drawn0.refl _ | apply Drawn0.step)⟩
 case round =>
  clear H'
  try clear p2
  obtain ⟨x7_1, x8_1, rfl, rfl, HA, HK1, ⟨m1, rfl⟩⟩ := hrel
  cases gk with
  | zero => exact absurd HA.out (by simp [slices_BinarySearch_int_int.l0])
  | succ k1 =>
   have H := HA.out
   clear HA
   simp only [slices_BinarySearch_int_int.l0] at H
   by_cases c3 : x7_1 < x8_1
   · rw [if_pos c3] at H
     have c3b0 : decide (x7_1 < x8_1) = true := decide_eq_true c3
     clear c3
     obtain ⟨ji4, hji4⟩ : ∃ j_ : Int, (wrap64 ((IntKind.u64.wrap (wrap64 (x7_1 + x8_1))) / 2)) = j_ := ⟨_, rfl⟩
     replace H : (if 0 ≤ (ji4) then (if (ji4) < (l0.length : Int) then ((cmp_Less_int.f (rd l0 (ji4)) a1).bind fun t123 => (if t123 = true then (slices_BinarySearch_int_int.l0 k1 l0 a1 (l0.length : Int) (wrap64 ((ji4) + 1)) x8_1) else (slices_BinarySearch_int_int.l0 k1 l0 a1 (l0.length : Int) x7_1 ji4))) else (none)) else (none)) = some (r1, r2) := by first | (rw [hji4] at H; exact H) | (simp only [hji4] at H ⊢; exact H)
     have hji4w : (IntKind.i64.wrap ((IntKind.u64.wrap (wrap64 (x7_1 + x8_1))) / 2)) = ji4 := (i64_w _).trans hji4
     by_cases c5 : 0 ≤ (ji4)
     · rw [if_pos c5] at H
       have c5b0 : decide (0 ≤ (ji4)) = true := decide_eq_true c5
       clear c5
       by_cases c6 : (ji4) < (l0.length : Int)
       · rw [if_pos c6] at H
         have c6b0 : decide ((ji4) < (l0.length : Int)) = true := decide_eq_true c6
         clear c6
         replace H := Option.bind_eq_some_iff.mp H
         obtain ⟨t123, A70, H⟩ := H
         replace H : (if t123 = true then (slices_BinarySearch_int_int.l0 k1 l0 a1 (l0.length : Int) (wrap64 ((ji4) + 1)) x8_1) else (slices_BinarySearch_int_int.l0 k1 l0 a1 (l0.length : Int) x7_1 ji4)) = some (r1, r2) := H
         have A7 := Aside0.mk A70
         clear A70
         by_cases c8 : t123 = true
         · subst c8
           have H1 : (slices_BinarySearch_int_int.l0 k1 l0 a1 (l0.length : Int) (wrap64 ((ji4) + 1)) x8_1) = some (r1, r2) := by rw [if_pos rfl] at H; exact H
           clear H
           have H := H1
           clear H1
           have H' := Aside0.mk H
           clear H
           have p122 : 0 ≤ ((ji4) : Int) := of_decide_eq_true (by first | (with_reducible assumption) | assumption)
           have q122 : (ji4) < (l0.length : Int) := of_decide_eq_true (by first | (with_reducible assumption) | assumption)
           obtain ⟨ad122, e122, hx122_0⟩ := Kd.at_int HR0.out (ji4) p122 q122
           cases e122
           replace p122 := eq_true p122
           replace q122 := eq_true q122
           go_wp2_with (first | ((with_reducible refine gate_callee (f := 82) rfl ?_); refine goesL_ (some 27) rfl rfl Try.func82 (by kernel_rfl) rfl #[.int .i64 (rd l0 (ji4)), .int .i64 a1] rfl (by (try simp only [List.map_toArray, List.map_cons, List.map_nil]); first | done | (simp only [hji4]; rfl) | rfl | (simp only [List.length_drop, List.length_take]; rfl)) ?_; (with_reducible refine (cmp_Less_int.calls (rd l0 (ji4)) a1 true _ A7.out).mono ?_); rintro e w' ⟨rfl, ⟨nd, rfl⟩⟩; refine ⟨_, rfl, ?_⟩))
           go_roundg k1
           case measure => have := HK1.out; omega
           case rel => exact ⟨(wrap64 ((ji4) + 1)), (x8_1), (by first | rfl | (simp; done) | (simp only [← hji4] <;> (first | rfl | simp)) | (simp [*]; done)), (by first | rfl | (simp; done) | (simp [*]; done)), H', ⟨by have := HK1.out; omega⟩, by repeat (first | exact Drawn0.refl _ | apply Drawn0.step)⟩
         · replace c8 := Bool.eq_false_iff.mpr c8
           subst c8
           have H1 : (slices_BinarySearch_int_int.l0 k1 l0 a1 (l0.length : Int) x7_1 ji4) = some (r1, r2) := by rw [if_neg (show ¬ (false = true) by decide)] at H; exact H
           clear H
           have H := H1
           clear H1
           have H' := Aside0.mk H
           clear H
           have p122 : 0 ≤ ((ji4) : Int) := of_decide_eq_true (by first | (with_reducible assumption) | assumption)
           have q122 : (ji4) < (l0.length : Int) := of_decide_eq_true (by first | (with_reducible assumption) | assumption)
           obtain ⟨ad122, e122, hx122_0⟩ := Kd.at_int HR0.out (ji4) p122 q122
           cases e122
           replace p122 := eq_true p122
           replace q122 := eq_true q122
           go_wp2_with (first | ((with_reducible refine gate_callee (f := 82) rfl ?_); refine goesL_ (some 27) rfl rfl Try.func82 (by kernel_rfl) rfl #[.int .i64 (rd l0 (ji4)), .int .i64 a1] rfl (by (try simp only [List.map_toArray, List.map_cons, List.map_nil]); first | done | (simp only [hji4]; rfl) | rfl | (simp only [List.length_drop, List.length_take]; rfl)) ?_; (with_reducible refine (cmp_Less_int.calls (rd l0 (ji4)) a1 false _ A7.out).mono ?_); rintro e w' ⟨rfl, ⟨nd, rfl⟩⟩; refine ⟨_, rfl, ?_⟩))
           go_roundg k1
           case measure => have := HK1.out; omega
           case rel => exact ⟨(x7_1), (ji4), (by first | rfl | (simp; done) | (simp [*]; done)), (by first | rfl | (simp; done) | (simp only [← hji4] <;> (first | rfl | simp)) | (simp [*]; done)), H', ⟨by have := HK1.out; omega⟩, by repeat (first | exact Drawn0.refl _ | apply Drawn0.step)⟩
       · rw [if_neg c6] at H
         exact absurd H (by simp)
     · rw [if_neg c5] at H
       exact absurd H (by simp)
   · rw [if_neg c3] at H
     have c3b0 : decide (x7_1 < x8_1) = false := decide_eq_false c3
     clear c3
     by_cases c9 : x7_1 < (l0.length : Int)
     · rw [if_pos c9] at H
       have c9b0 : decide (x7_1 < (l0.length : Int)) = true := decide_eq_true c9
       clear c9
       by_cases c10 : 0 ≤ x7_1
       · rw [if_pos c10] at H
         have c10b0 : decide (0 ≤ x7_1) = true := decide_eq_true c10
         clear c10
         by_cases c11 : x7_1 < (l0.length : Int)
         · rw [if_pos c11] at H
           have c11b0 : decide (x7_1 < (l0.length : Int)) = true := decide_eq_true c11
           clear c11
           by_cases c12 : (rd l0 x7_1) = a1
           · rw [if_pos c12] at H
             have c12b0 : ((rd l0 x7_1) == a1) = true := beq_iff_eq.mpr c12
             have c12b1 : ((rd l0 x7_1) != a1) = false := bne_eq_false_iff_eq.mpr c12
             clear c12
             simp only [Option.some.injEq, Prod.mk.injEq] at H
             obtain ⟨rfl, rfl⟩ := H
             have p124 : 0 ≤ (x7_1 : Int) := of_decide_eq_true (by first | (with_reducible assumption) | assumption)
             have q124 : x7_1 < (l0.length : Int) := of_decide_eq_true (by first | (with_reducible assumption) | assumption)
             obtain ⟨ad124, e124, hx124_0⟩ := Kd.at_int HR0.out x7_1 p124 q124
             cases e124
             replace p124 := eq_true p124
             replace q124 := eq_true q124
             go_wp2
             go_ret2
             exact ⟨by first | rfl | (simp; done) | (simp [*]; done), by repeat (first | exact Drawn0.refl _ | apply Drawn0.step)⟩
           · rw [if_neg c12] at H
             have c12b0 : ((rd l0 x7_1) == a1) = false := beq_eq_false_iff_ne.mpr c12
             have c12b1 : ((rd l0 x7_1) != a1) = true := bne_iff_ne.mpr c12
             replace H := Option.bind_eq_some_iff.mp H
             obtain ⟨t126, A130, H⟩ := H
             replace H : (if t126 = true then ((slices_isNaN_int.f a1).bind fun t127 => (some (x7_1, t127))) else (some (x7_1, false))) = some (r1, r2) := H
             have A13 := Aside0.mk A130
             clear A130
             by_cases c14 : t126 = true
             · subst c14
               have H1 : ((slices_isNaN_int.f a1).bind fun t127 => (some (x7_1, t127))) = some (r1, r2) := by rw [if_pos rfl] at H; exact H
               clear H
               have H := H1
               clear H1
               replace H := Option.bind_eq_some_iff.mp H
               obtain ⟨t127, A150, H⟩ := H
               replace H : (some (x7_1, t127)) = some (r1, r2) := H
               have A15 := Aside0.mk A150
               clear A150
               simp only [Option.some.injEq, Prod.mk.injEq] at H
               obtain ⟨rfl, rfl⟩ := H
               have p124 : 0 ≤ (x7_1 : Int) := of_decide_eq_true (by first | (with_reducible assumption) | assumption)
               have q124 : x7_1 < (l0.length : Int) := of_decide_eq_true (by first | (with_reducible assumption) | assumption)
               obtain ⟨ad124, e124, hx124_0⟩ := Kd.at_int HR0.out x7_1 p124 q124
               cases e124
               replace p124 := eq_true p124
               replace q124 := eq_true q124
               have p125 : 0 ≤ (x7_1 : Int) := of_decide_eq_true (by first | (with_reducible assumption) | assumption)
               have q125 : x7_1 < (l0.length : Int) := of_decide_eq_true (by first | (with_reducible assumption) | assumption)
               obtain ⟨ad125, e125, hx125_0⟩ := Kd.at_int HR0.out x7_1 p125 q125
               obtain rfl : ad124 = ad125 := (by injection e125)
               replace p125 := eq_true p125
               replace q125 := eq_true q125
               go_wp2_with (first | (go_at_call 99; (with_reducible refine (slices_isNaN_int.calls (rd l0 x7_1) true _ A13.out).mono ?_); rintro e w' ⟨rfl, ⟨nd, rfl⟩⟩) | (go_at_call 99; (with_reducible refine (slices_isNaN_int.calls a1 t127 _ A15.out).mono ?_); rintro e w' ⟨rfl, ⟨nd, rfl⟩⟩))
               go_ret2
               exact ⟨by first | rfl | (simp; done) | (simp [*]; done), by repeat (first | exact Drawn0.refl _ | apply Drawn0.step)⟩
             · replace c14 := Bool.eq_false_iff.mpr c14
               subst c14
               have H1 : (some (x7_1, false)) = some (r1, r2) := by rw [if_neg (show ¬ (false = true) by decide)] at H; exact H
               clear H
               have H := H1
               clear H1
               simp only [Option.some.injEq, Prod.mk.injEq] at H
               obtain ⟨rfl, rfl⟩ := H
               have p124 : 0 ≤ (x7_1 : Int) := of_decide_eq_true (by first | (with_reducible assumption) | assumption)
               have q124 : x7_1 < (l0.length : Int) := of_decide_eq_true (by first | (with_reducible assumption) | assumption)
               obtain ⟨ad124, e124, hx124_0⟩ := Kd.at_int HR0.out x7_1 p124 q124
               cases e124
               replace p124 := eq_true p124
               replace q124 := eq_true q124
               have p125 : 0 ≤ (x7_1 : Int) := of_decide_eq_true (by first | (with_reducible assumption) | assumption)
               have q125 : x7_1 < (l0.length : Int) := of_decide_eq_true (by first | (with_reducible assumption) | assumption)
               obtain ⟨ad125, e125, hx125_0⟩ := Kd.at_int HR0.out x7_1 p125 q125
               obtain rfl : ad124 = ad125 := (by injection e125)
               replace p125 := eq_true p125
               replace q125 := eq_true q125
               go_wp2_with (first | (go_at_call 99; (with_reducible refine (slices_isNaN_int.calls (rd l0 x7_1) false _ A13.out).mono ?_); rintro e w' ⟨rfl, ⟨nd, rfl⟩⟩))
               go_ret2
               exact ⟨by first | rfl | (simp; done) | (simp [*]; done), by repeat (first | exact Drawn0.refl _ | apply Drawn0.step)⟩
         · rw [if_neg c11] at H
           exact absurd H (by simp)
       · rw [if_neg c10] at H
         exact absurd H (by simp)
     · rw [if_neg c9] at H
       have c9b0 : decide (x7_1 < (l0.length : Int)) = false := decide_eq_false c9
       clear c9
       simp only [Option.some.injEq, Prod.mk.injEq] at H
       obtain ⟨rfl, rfl⟩ := H
       go_wp2
       go_ret2
       exact ⟨by first | rfl | (simp; done) | (simp [*]; done), by repeat (first | exact Drawn0.refl _ | apply Drawn0.step)⟩
end Go.Proofs.Ytingjpcgehgiiaa.Pr
end
