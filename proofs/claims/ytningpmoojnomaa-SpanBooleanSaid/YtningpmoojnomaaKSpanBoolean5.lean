/- What the proof of the law needs, trimmed and merged by wip/pack.py out of the texts YtningpmoojnomaaPrx30, YtningpmoojnomaaAlive, YtningpmoojnomaaHand, YtningpmoojnomaaArgs, YtningpmoojnomaaWalkSpanBoolean, YtningpmoojnomaaRowSpanBoolean. No condition. -/
import Derived.Deep.Slices
import Derived.Deep.Fields
import Derived.ChangeSame
import Derived.Lib.SmallJoins
import Derived.OpenShut
import Derived.Test.YtningpmoojnomaaRows
import Derived.WalkKit
import Derived.ProofKit
import Derived.ShutString
import Derived.ChangeOld
import Derived.Below
import Derived.SizedLaws
import Derived.Test.YtningpmoojnomaaKSpanBoolean0
import Derived.Test.YtningpmoojnomaaKSpanBoolean1
import Derived.Test.YtningpmoojnomaaKSpanBoolean2
import Derived.Test.YtningpmoojnomaaKSpanBoolean3
import Derived.Test.YtningpmoojnomaaKSpanBoolean4
section
namespace Go.Proofs.Ytningpmoojnomaa.Pr
open Go.RowKit Go.Proofs.YtningpmoojnomaaW.PrintWords Go.Proofs.YtningpmoojnomaaW.PrintLast Go.Proofs.YtningpmoojnomaaW.PrintMore
attribute [local go_sem] max2_int min2_int max_two min_two max_three min_three max_four min_four   -- for this text's walks alone
set_option linter.unusedVariables false
set_option linter.unusedSimpArgs false
def kimberlitelaw01_alive.f (k : Nat)  : Option (Bool) := (span_Of.f k (([(⟨5, 9⟩ : S32), (⟨1, 3⟩ : S32), (⟨3, 5⟩ : S32)] : List (S32)))).bind fun bt407 => ((span_Cover.f k 0 10 (([(⟨0, 4⟩ : S32), (⟨0, 3⟩ : S32), (⟨3, 8⟩ : S32), (⟨6, 10⟩ : S32)] : List (S32)))).bind fun bt414 => ((span_Size.f k bt407.1).bind fun bt418 => (if bt407.2 = 0 then ((kimberlitelaw01_same.f k bt407.1 (([(⟨1, 9⟩ : S32)] : List (S32)))).bind fun t423 => (if t423 = true then (if bt414.2 = 0 then ((kimberlitelaw01_alike.f k bt414.1 (([0, 2, 3] : List Int))).bind fun t427 => (if t427 = true then (if bt418.2 = 0 then (some (bt418.1 == 8)) else (some false)) else (some false))) else (some false)) else (some false))) else (some false))))
theorem kimberlitelaw01_alive.mono : ∀ k, LeO (kimberlitelaw01_alive.f k ) (kimberlitelaw01_alive.f (k + 1) ) := by
 intro  k
 unfold kimberlitelaw01_alive.f
 repeat' first
  | (with_reducible exact kimberlitelaw01_alike.mono _ _ _)
  | (with_reducible exact kimberlitelaw01_same.mono _ _ _)
  | (with_reducible exact span_Cover.mono _ _ _ _)
  | (with_reducible exact span_Of.mono _ _)
  | (with_reducible exact span_Size.mono _ _)
  | (with_reducible exact LeO.refl _)
  | (with_reducible exact LeO.none _)
  | (with_reducible refine LeO.ite ?_ ?_)
  | (with_reducible refine LeO.bind ?_ (fun _ => ?_))
  | exact kimberlitelaw01_alike.mono _ _ _
  | exact kimberlitelaw01_same.mono _ _ _
  | exact span_Cover.mono _ _ _ _
  | exact span_Of.mono _ _
  | exact span_Size.mono _ _
  | exact LeO.none _
  | refine LeO.ite ?_ ?_
  | refine LeO.bind ?_ (fun _ => ?_)
set_option maxHeartbeats 8000000 in
set_option maxRecDepth 100000 in
theorem kimberlitelaw01_alive.calls (k : Nat)  (r : Bool) (w : World) (h : kimberlitelaw01_alive.f k  = some r) :
 Calls Try.prog 16 #[] w fun e w' => e = .returned (.bool r) ∧ Below w.heap.size w w' := by
 have hu32 := Try.underlying32
 have HB := Aside0.mk (Below.refl w.heap.size w)
 have H : ((span_Of.f k (([(⟨5, 9⟩ : S32), (⟨1, 3⟩ : S32), (⟨3, 5⟩ : S32)] : List (S32)))).bind fun bt407 => ((span_Cover.f k 0 10 (([(⟨0, 4⟩ : S32), (⟨0, 3⟩ : S32), (⟨3, 8⟩ : S32), (⟨6, 10⟩ : S32)] : List (S32)))).bind fun bt414 => ((span_Size.f k bt407.1).bind fun bt418 => (if bt407.2 = 0 then ((kimberlitelaw01_same.f k bt407.1 (([(⟨1, 9⟩ : S32)] : List (S32)))).bind fun t423 => (if t423 = true then (if bt414.2 = 0 then ((kimberlitelaw01_alike.f k bt414.1 (([0, 2, 3] : List Int))).bind fun t427 => (if t427 = true then (if bt418.2 = 0 then (some (bt418.1 == 8)) else (some false)) else (some false))) else (some false)) else (some false))) else (some false))))) = some r := h
 clear h
 obtain ⟨y404, hy404⟩ : ∃ y_ : List (S32), y_ = (([(⟨5, 9⟩ : S32), (⟨1, 3⟩ : S32), (⟨3, 5⟩ : S32)] : List (S32))) := ⟨_, rfl⟩
 replace H : ((span_Of.f k y404).bind fun bt407 => ((span_Cover.f k 0 10 (([(⟨0, 4⟩ : S32), (⟨0, 3⟩ : S32), (⟨3, 8⟩ : S32), (⟨6, 10⟩ : S32)] : List (S32)))).bind fun bt414 => ((span_Size.f k bt407.1).bind fun bt418 => (if bt407.2 = 0 then ((kimberlitelaw01_same.f k bt407.1 (([(⟨1, 9⟩ : S32)] : List (S32)))).bind fun t423 => (if t423 = true then (if bt414.2 = 0 then ((kimberlitelaw01_alike.f k bt414.1 (([0, 2, 3] : List Int))).bind fun t427 => (if t427 = true then (if bt418.2 = 0 then (some (bt418.1 == 8)) else (some false)) else (some false))) else (some false)) else (some false))) else (some false))))) = some r := by first | (rw [hy404]; with_reducible exact H) | (have H2_ := (Option.bind_some _ _).symm.trans H; rw [hy404]; with_reducible exact H2_) | (have H2_ := (Option.bind_some _ _).symm.trans H; with_reducible exact H2_) | with_reducible exact H | (rw [hy404]; exact H) | exact H
 have Ny404 := Aside0.mk hy404
 clear hy404
 replace H := Option.bind_eq_some_iff.mp H
 obtain ⟨⟨t407, t408⟩, A10, H⟩ := H
 replace H : ((span_Cover.f k 0 10 (([(⟨0, 4⟩ : S32), (⟨0, 3⟩ : S32), (⟨3, 8⟩ : S32), (⟨6, 10⟩ : S32)] : List (S32)))).bind fun bt414 => ((span_Size.f k t407).bind fun bt418 => (if t408 = 0 then ((kimberlitelaw01_same.f k t407 (([(⟨1, 9⟩ : S32)] : List (S32)))).bind fun t423 => (if t423 = true then (if bt414.2 = 0 then ((kimberlitelaw01_alike.f k bt414.1 (([0, 2, 3] : List Int))).bind fun t427 => (if t427 = true then (if bt418.2 = 0 then (some (bt418.1 == 8)) else (some false)) else (some false))) else (some false)) else (some false))) else (some false)))) = some r := H
 have A1 := Aside0.mk A10
 clear A10
 obtain ⟨y411, hy411⟩ : ∃ y_ : List (S32), y_ = (([(⟨0, 4⟩ : S32), (⟨0, 3⟩ : S32), (⟨3, 8⟩ : S32), (⟨6, 10⟩ : S32)] : List (S32))) := ⟨_, rfl⟩
 replace H : ((span_Cover.f k 0 10 y411).bind fun bt414 => ((span_Size.f k t407).bind fun bt418 => (if t408 = 0 then ((kimberlitelaw01_same.f k t407 (([(⟨1, 9⟩ : S32)] : List (S32)))).bind fun t423 => (if t423 = true then (if bt414.2 = 0 then ((kimberlitelaw01_alike.f k bt414.1 (([0, 2, 3] : List Int))).bind fun t427 => (if t427 = true then (if bt418.2 = 0 then (some (bt418.1 == 8)) else (some false)) else (some false))) else (some false)) else (some false))) else (some false)))) = some r := by first | (rw [hy411]; with_reducible exact H) | (have H2_ := (Option.bind_some _ _).symm.trans H; rw [hy411]; with_reducible exact H2_) | (have H2_ := (Option.bind_some _ _).symm.trans H; with_reducible exact H2_) | with_reducible exact H | (rw [hy411]; exact H) | exact H
 have Ny411 := Aside0.mk hy411
 clear hy411
 replace H := Option.bind_eq_some_iff.mp H
 obtain ⟨⟨t414, t417⟩, A20, H⟩ := H
 replace H : ((span_Size.f k t407).bind fun bt418 => (if t408 = 0 then ((kimberlitelaw01_same.f k t407 (([(⟨1, 9⟩ : S32)] : List (S32)))).bind fun t423 => (if t423 = true then (if t417 = 0 then ((kimberlitelaw01_alike.f k t414 (([0, 2, 3] : List Int))).bind fun t427 => (if t427 = true then (if bt418.2 = 0 then (some (bt418.1 == 8)) else (some false)) else (some false))) else (some false)) else (some false))) else (some false))) = some r := H
 have A2 := Aside0.mk A20
 clear A20
 replace H := Option.bind_eq_some_iff.mp H
 obtain ⟨⟨t418, t419⟩, A30, H⟩ := H
 replace H : (if t408 = 0 then ((kimberlitelaw01_same.f k t407 (([(⟨1, 9⟩ : S32)] : List (S32)))).bind fun t423 => (if t423 = true then (if t417 = 0 then ((kimberlitelaw01_alike.f k t414 (([0, 2, 3] : List Int))).bind fun t427 => (if t427 = true then (if t419 = 0 then (some (t418 == 8)) else (some false)) else (some false))) else (some false)) else (some false))) else (some false)) = some r := H
 have A3 := Aside0.mk A30
 clear A30
 by_cases c4 : t408 = 0
 · rw [if_pos c4] at H
   have c4b0 : (t408 == 0) = true := beq_iff_eq.mpr c4
   have c4b1 : (t408 != 0) = false := bne_eq_false_iff_eq.mpr c4
   clear c4
   obtain ⟨y420, hy420⟩ : ∃ y_ : List (S32), y_ = (([(⟨1, 9⟩ : S32)] : List (S32))) := ⟨_, rfl⟩
   replace H : ((kimberlitelaw01_same.f k t407 y420).bind fun t423 => (if t423 = true then (if t417 = 0 then ((kimberlitelaw01_alike.f k t414 (([0, 2, 3] : List Int))).bind fun t427 => (if t427 = true then (if t419 = 0 then (some (t418 == 8)) else (some false)) else (some false))) else (some false)) else (some false))) = some r := by first | (rw [hy420]; with_reducible exact H) | (have H2_ := (Option.bind_some _ _).symm.trans H; rw [hy420]; with_reducible exact H2_) | (have H2_ := (Option.bind_some _ _).symm.trans H; with_reducible exact H2_) | with_reducible exact H | (rw [hy420]; exact H) | exact H
   have Ny420 := Aside0.mk hy420
   clear hy420
   replace H := Option.bind_eq_some_iff.mp H
   obtain ⟨t423, A50, H⟩ := H
   replace H : (if t423 = true then (if t417 = 0 then ((kimberlitelaw01_alike.f k t414 (([0, 2, 3] : List Int))).bind fun t427 => (if t427 = true then (if t419 = 0 then (some (t418 == 8)) else (some false)) else (some false))) else (some false)) else (some false)) = some r := H
   have A5 := Aside0.mk A50
   clear A50
   by_cases c6 : t423 = true
   · subst c6
     have H1 : (if t417 = 0 then ((kimberlitelaw01_alike.f k t414 (([0, 2, 3] : List Int))).bind fun t427 => (if t427 = true then (if t419 = 0 then (some (t418 == 8)) else (some false)) else (some false))) else (some false)) = some r := by rw [if_pos rfl] at H; exact H
     clear H
     have H := H1
     clear H1
     by_cases c7 : t417 = 0
     · rw [if_pos c7] at H
       have c7b0 : (t417 == 0) = true := beq_iff_eq.mpr c7
       have c7b1 : (t417 != 0) = false := bne_eq_false_iff_eq.mpr c7
       clear c7
       obtain ⟨y424, hy424⟩ : ∃ y_ : List Int, y_ = (([0, 2, 3] : List Int)) := ⟨_, rfl⟩
       replace H : ((kimberlitelaw01_alike.f k t414 y424).bind fun t427 => (if t427 = true then (if t419 = 0 then (some (t418 == 8)) else (some false)) else (some false))) = some r := by first | (rw [hy424]; with_reducible exact H) | (have H2_ := (Option.bind_some _ _).symm.trans H; rw [hy424]; with_reducible exact H2_) | (have H2_ := (Option.bind_some _ _).symm.trans H; with_reducible exact H2_) | with_reducible exact H | (rw [hy424]; exact H) | exact H
       have Ny424 := Aside0.mk hy424
       clear hy424
       replace H := Option.bind_eq_some_iff.mp H
       obtain ⟨t427, A80, H⟩ := H
       replace H : (if t427 = true then (if t419 = 0 then (some (t418 == 8)) else (some false)) else (some false)) = some r := H
       have A8 := Aside0.mk A80
       clear A80
       by_cases c9 : t427 = true
       · subst c9
         have H1 : (if t419 = 0 then (some (t418 == 8)) else (some false)) = some r := by rw [if_pos rfl] at H; exact H
         clear H
         have H := H1
         clear H1
         by_cases c10 : t419 = 0
         · rw [if_pos c10] at H
           have c10b0 : (t419 == 0) = true := beq_iff_eq.mpr c10
           have c10b1 : (t419 != 0) = false := bne_eq_false_iff_eq.mpr c10
           clear c10
           obtain rfl := Option.some.inj H
           go_enter Try.func16, Try.ntmps16
           go_wp2_with (first | ((with_reducible refine gate_dst (N := 11) rfl ?_); (try (refine gate_guard (by rfl) ?_; dsimp only)); refine Kd.R_lit k32 _ 32 ?hg (N := 11) ?hd (xs := ([(⟨5, 9⟩ : S32), (⟨1, 3⟩ : S32), (⟨3, 5⟩ : S32)] : List (S32))) (inner := [.int .i64 5, .int .i64 9, .int .i64 1, .int .i64 3, .int .i64 3, .int .i64 5]) (ok := fun _ => True) (okp := fun _ => True) ?hr ?hp (fun _ hk => hk) trivial (Below.refl _ _) (Nat.le_refl _) (by simp) ?_; (case hd => rfl); (case hg => rfl); (case hr => first | (go_simp; done) | (go_simp; rfl)); (case hp => exact (Reps.c2 (show Kd.M k32 _ _ _ (⟨5, 9⟩ : S32) [.int .i64 5, .int .i64 9] from (k32_mkM _ _ _ (⟨5, 9⟩ : S32) )) (Reps.c2 (show Kd.M k32 _ _ _ (⟨1, 3⟩ : S32) [.int .i64 1, .int .i64 3] from (k32_mkM _ _ _ (⟨1, 3⟩ : S32) )) (Reps.c2 (show Kd.M k32 _ _ _ (⟨3, 5⟩ : S32) [.int .i64 3, .int .i64 5] from (k32_mkM _ _ _ (⟨3, 5⟩ : S32) )) (Reps.none _ _))))); intro v405 w11 ho12 hb hg_ hnew_; clear hg_ hnew_; (first | rw [← Ny404.out] at ho12 | (simp only [Int.reduceToNat] at ho12; rw [← Ny404.out] at ho12)); have n0_ := Aside0.mk (Kd.R_lower ho12 (below_size (by repeat (first | (with_reducible first | exact HB.out | apply below_alloc | apply pw_below_drewN | apply below_drew1) | exact HB.out)))); have n1_ := Aside0.mk (below_step (by repeat (first | (with_reducible first | exact HB.out | apply below_alloc | apply pw_below_drewN | apply below_drew1) | exact HB.out)) hb); clear HB; have HO406 := n0_; have HB := n1_; clear n0_ n1_; clear hb ho12; obtain ⟨Ao13, co13, eo13⟩ := Kd.R_slice HO406.out; subst eo13) | ((with_reducible refine gate_callee (f := 19) rfl ?_); refine goesL_ (some 12) rfl rfl Try.func19 (by kernel_rfl) rfl #[.slice Ao13 y404.length co13] rfl (by (try simp only [List.map_toArray, List.map_cons, List.map_nil]); first | done | rfl | (simp only [List.length_drop, List.length_take]; rfl)) ?_; (with_reducible refine (span_Of.calls k _ _ y404 t407 t408 _ ?side1 ?side2 A1.out).mono ?_); (case side1 => repeat (first | exact (Kd.R_reads' HO406.out).2.2 | (with_reducible refine Kd.C_alloc ?_ _) | (with_reducible refine Kd.C_drewN ?_ _) | (with_reducible refine Kd.C_drew ?_))); (case side2 => exact (Kd.R_reads' HO406.out).2.1); rintro e w14 ⟨v409, rfl, ho0, hb⟩; refine ⟨_, rfl, ?_⟩; have n0_ := Aside0.mk (Kd.R_elder' (by (with_reducible repeat (first | apply Kd.R_alloc | apply Kd.R_drewN | apply Kd.R_drew)); exact HO406.out) (Kd.R_base ho0) hb); have n1_ := Aside0.mk (Kd.R_lower (Kd.R_new' ho0 (Kd.R_lt (by (with_reducible repeat (first | apply Kd.R_alloc | apply Kd.R_drewN | apply Kd.R_drew)); exact HO406.out))) (below_size (by repeat (first | (with_reducible first | exact HB.out | apply below_alloc | apply pw_below_drewN | apply below_drew1) | exact HB.out)))); have n2_ := Aside0.mk (below_step (by repeat (first | (with_reducible first | exact HB.out | apply below_alloc | apply pw_below_drewN | apply below_drew1) | exact HB.out)) hb); clear HO406; clear HB; have HO406 := n0_; have HO410 := n1_; have HB := n2_; clear n0_ n1_ n2_; (try clear hb); (try clear hb2); (try clear hk); (try clear hi); (try clear ho0)) | ((with_reducible refine gate_dst (N := 21) rfl ?_); (try (refine gate_guard (by rfl) ?_; dsimp only)); refine Kd.R_lit k32 _ 32 ?hg (N := 21) ?hd (xs := ([(⟨0, 4⟩ : S32), (⟨0, 3⟩ : S32), (⟨3, 8⟩ : S32), (⟨6, 10⟩ : S32)] : List (S32))) (inner := [.int .i64 0, .int .i64 4, .int .i64 0, .int .i64 3, .int .i64 3, .int .i64 8, .int .i64 6, .int .i64 10]) (ok := fun _ => True) (okp := fun _ => True) ?hr ?hp (fun _ hk => hk) trivial (Below.refl _ _) (Nat.le_refl _) (by simp) ?_; (case hd => rfl); (case hg => rfl); (case hr => first | (go_simp; done) | (go_simp; rfl)); (case hp => exact (Reps.c2 (show Kd.M k32 _ _ _ (⟨0, 4⟩ : S32) [.int .i64 0, .int .i64 4] from (k32_mkM _ _ _ (⟨0, 4⟩ : S32) )) (Reps.c2 (show Kd.M k32 _ _ _ (⟨0, 3⟩ : S32) [.int .i64 0, .int .i64 3] from (k32_mkM _ _ _ (⟨0, 3⟩ : S32) )) (Reps.c2 (show Kd.M k32 _ _ _ (⟨3, 8⟩ : S32) [.int .i64 3, .int .i64 8] from (k32_mkM _ _ _ (⟨3, 8⟩ : S32) )) (Reps.c2 (show Kd.M k32 _ _ _ (⟨6, 10⟩ : S32) [.int .i64 6, .int .i64 10] from (k32_mkM _ _ _ (⟨6, 10⟩ : S32) )) (Reps.none _ _)))))); intro v412 w15 ho16 hb hg_ hnew_; clear hg_ hnew_; (first | rw [← Ny411.out] at ho16 | (simp only [Int.reduceToNat] at ho16; rw [← Ny411.out] at ho16)); have n0_ := Aside0.mk (Kd.R_elder' (by (with_reducible repeat (first | apply Kd.R_alloc | apply Kd.R_drewN | apply Kd.R_drew)); exact HO406.out) (Kd.R_base ho16) hb); have n1_ := Aside0.mk (Kd.R_elder' (by (with_reducible repeat (first | apply Kd.R_alloc | apply Kd.R_drewN | apply Kd.R_drew)); exact HO410.out) (Kd.R_base ho16) hb); have n2_ := Aside0.mk (Kd.R_lower (Kd.R_new' (Kd.R_new' ho16 (Kd.R_lt (by (with_reducible repeat (first | apply Kd.R_alloc | apply Kd.R_drewN | apply Kd.R_drew)); exact HO406.out))) (Kd.R_lt (by (with_reducible repeat (first | apply Kd.R_alloc | apply Kd.R_drewN | apply Kd.R_drew)); exact HO410.out))) (below_size (by repeat (first | (with_reducible first | exact HB.out | apply below_alloc | apply pw_below_drewN | apply below_drew1) | exact HB.out)))); have n3_ := Aside0.mk (below_step (by repeat (first | (with_reducible first | exact HB.out | apply below_alloc | apply pw_below_drewN | apply below_drew1) | exact HB.out)) hb); clear HO406; clear HO410; clear HB; have HO406 := n0_; have HO410 := n1_; have HO413 := n2_; have HB := n3_; clear n0_ n1_ n2_ n3_; clear hb ho16; obtain ⟨Ao17, co17, eo17⟩ := Kd.R_slice HO413.out; subst eo17) | ((with_reducible refine gate_callee (f := 25) rfl ?_); refine goesL_ (some 22) rfl rfl Try.func25 (by kernel_rfl) rfl #[.agg #[.int .i64 0, .int .i64 10], .slice Ao17 y411.length co17] rfl (by (try simp only [List.map_toArray, List.map_cons, List.map_nil]); first | done | rfl | (simp only [List.length_drop, List.length_take]; rfl)) ?_; (with_reducible refine (span_Cover.calls k 0 10 _ _ y411 t414 t417 _ ?side1 ?side2 A2.out).mono ?_); (case side1 => repeat (first | exact (Kd.R_reads' HO413.out).2.2 | (with_reducible refine Kd.C_alloc ?_ _) | (with_reducible refine Kd.C_drewN ?_ _) | (with_reducible refine Kd.C_drew ?_))); (case side2 => exact (Kd.R_reads' HO413.out).2.1); rintro e w18 ⟨v415, rfl, ho0, hb⟩; refine ⟨_, rfl, ?_⟩; have n0_ := Aside0.mk (Kd.R_below (by (with_reducible repeat (first | apply Kd.R_alloc | apply Kd.R_drewN | apply Kd.R_drew)); exact HO406.out) hb); have n1_ := Aside0.mk (Kd.R_below (by (with_reducible repeat (first | apply Kd.R_alloc | apply Kd.R_drewN | apply Kd.R_drew)); exact HO410.out) hb); have n2_ := Aside0.mk (Kd.R_below (by (with_reducible repeat (first | apply Kd.R_alloc | apply Kd.R_drewN | apply Kd.R_drew)); exact HO413.out) hb); have n3_ := Aside0.mk (Kd.R_lower ho0 (below_size (by repeat (first | (with_reducible first | exact HB.out | apply below_alloc | apply pw_below_drewN | apply below_drew1) | exact HB.out)))); have n4_ := Aside0.mk (below_step (by repeat (first | (with_reducible first | exact HB.out | apply below_alloc | apply pw_below_drewN | apply below_drew1) | exact HB.out)) hb); clear HO406; clear HO410; clear HO413; clear HB; have HO406 := n0_; have HO410 := n1_; have HO413 := n2_; have HO416 := n3_; have HB := n4_; clear n0_ n1_ n2_ n3_ n4_; (try clear hb); (try clear hb2); (try clear hk); (try clear hi); (try clear ho0); obtain ⟨Ao19, co19, eo19⟩ := Kd.R_slice HO410.out; subst eo19) | ((with_reducible refine gate_callee (f := 32) rfl ?_); refine goesL_ (some 27) rfl rfl Try.func32 (by kernel_rfl) rfl #[.slice Ao19 t407.length co19] rfl (by (try simp only [List.map_toArray, List.map_cons, List.map_nil]); first | done | rfl | (simp only [List.length_drop, List.length_take]; rfl)) ?_; (with_reducible refine (span_Size.calls k _ _ t407 t418 t419 _ ?side1 ?side2 A3.out).mono ?_); (case side1 => repeat (first | exact (Kd.R_reads' HO410.out).2.2 | (with_reducible refine Kd.C_alloc ?_ _) | (with_reducible refine Kd.C_drewN ?_ _) | (with_reducible refine Kd.C_drew ?_))); (case side2 => exact (Kd.R_reads' HO410.out).2.1); rintro e w20 ⟨rfl, hb⟩; refine ⟨_, rfl, ?_⟩; have n0_ := Aside0.mk (Kd.R_below (by (with_reducible repeat (first | apply Kd.R_alloc | apply Kd.R_drewN | apply Kd.R_drew)); exact HO406.out) hb); have n1_ := Aside0.mk (Kd.R_below (by (with_reducible repeat (first | apply Kd.R_alloc | apply Kd.R_drewN | apply Kd.R_drew)); exact HO410.out) hb); have n2_ := Aside0.mk (Kd.R_below (by (with_reducible repeat (first | apply Kd.R_alloc | apply Kd.R_drewN | apply Kd.R_drew)); exact HO413.out) hb); have n3_ := Aside0.mk (Kd.R_below (by (with_reducible repeat (first | apply Kd.R_alloc | apply Kd.R_drewN | apply Kd.R_drew)); exact HO416.out) hb); have n4_ := Aside0.mk (below_step (by repeat (first | (with_reducible first | exact HB.out | apply below_alloc | apply pw_below_drewN | apply below_drew1) | exact HB.out)) hb); clear HO406; clear HO410; clear HO413; clear HO416; clear HB; have HO406 := n0_; have HO410 := n1_; have HO413 := n2_; have HO416 := n3_; have HB := n4_; clear n0_ n1_ n2_ n3_ n4_; (try clear hb); (try clear hb2); (try clear hk); (try clear hi)) | ((with_reducible refine gate_dst (N := 35) rfl ?_); (try (refine gate_guard (by rfl) ?_; dsimp only)); refine Kd.R_lit k32 _ 32 ?hg (N := 35) ?hd (xs := ([(⟨1, 9⟩ : S32)] : List (S32))) (inner := [.int .i64 1, .int .i64 9]) (ok := fun _ => True) (okp := fun _ => True) ?hr ?hp (fun _ hk => hk) trivial (Below.refl _ _) (Nat.le_refl _) (by simp) ?_; (case hd => rfl); (case hg => rfl); (case hr => first | (go_simp; done) | (go_simp; rfl)); (case hp => exact (Reps.c2 (show Kd.M k32 _ _ _ (⟨1, 9⟩ : S32) [.int .i64 1, .int .i64 9] from (k32_mkM _ _ _ (⟨1, 9⟩ : S32) )) (Reps.none _ _))); intro v421 w21 ho22 hb hg_ hnew_; clear hg_ hnew_; (first | rw [← Ny420.out] at ho22 | (simp only [Int.reduceToNat] at ho22; rw [← Ny420.out] at ho22)); have n0_ := Aside0.mk (Kd.R_elder' (by (with_reducible repeat (first | apply Kd.R_alloc | apply Kd.R_drewN | apply Kd.R_drew)); exact HO406.out) (Kd.R_base ho22) hb); have n1_ := Aside0.mk (Kd.R_elder' (by (with_reducible repeat (first | apply Kd.R_alloc | apply Kd.R_drewN | apply Kd.R_drew)); exact HO410.out) (Kd.R_base ho22) hb); have n2_ := Aside0.mk (Kd.R_elder' (by (with_reducible repeat (first | apply Kd.R_alloc | apply Kd.R_drewN | apply Kd.R_drew)); exact HO413.out) (Kd.R_base ho22) hb); have n3_ := Aside0.mk (Kd.R_below (by (with_reducible repeat (first | apply Kd.R_alloc | apply Kd.R_drewN | apply Kd.R_drew)); exact HO416.out) hb); have n4_ := Aside0.mk (Kd.R_lower (Kd.R_new' (Kd.R_new' (Kd.R_new' ho22 (Kd.R_lt (by (with_reducible repeat (first | apply Kd.R_alloc | apply Kd.R_drewN | apply Kd.R_drew)); exact HO406.out))) (Kd.R_lt (by (with_reducible repeat (first | apply Kd.R_alloc | apply Kd.R_drewN | apply Kd.R_drew)); exact HO410.out))) (Kd.R_lt (by (with_reducible repeat (first | apply Kd.R_alloc | apply Kd.R_drewN | apply Kd.R_drew)); exact HO413.out))) (below_size (by repeat (first | (with_reducible first | exact HB.out | apply below_alloc | apply pw_below_drewN | apply below_drew1) | exact HB.out)))); have n5_ := Aside0.mk (below_step (by repeat (first | (with_reducible first | exact HB.out | apply below_alloc | apply pw_below_drewN | apply below_drew1) | exact HB.out)) hb); clear HO406; clear HO410; clear HO413; clear HO416; clear HB; have HO406 := n0_; have HO410 := n1_; have HO413 := n2_; have HO416 := n3_; have HO422 := n4_; have HB := n5_; clear n0_ n1_ n2_ n3_ n4_ n5_; clear hb ho22; obtain ⟨Ao23, co23, eo23⟩ := Kd.R_slice HO422.out; subst eo23) | (go_at_call 20; (with_reducible refine (kimberlitelaw01_same.calls k _ _ t407 _ _ y420 true _ ?side1 ?side2 ?side3 ?side4 A5.out).mono ?_); (case side1 => repeat (first | exact (Kd.R_reads' HO410.out).2.2 | (with_reducible refine Kd.C_alloc ?_ _) | (with_reducible refine Kd.C_drewN ?_ _) | (with_reducible refine Kd.C_drew ?_))); (case side2 => exact (Kd.R_reads' HO410.out).2.1); (case side3 => repeat (first | exact (Kd.R_reads' HO422.out).2.2 | (with_reducible refine Kd.C_alloc ?_ _) | (with_reducible refine Kd.C_drewN ?_ _) | (with_reducible refine Kd.C_drew ?_))); (case side4 => exact (Kd.R_reads' HO422.out).2.1); rintro e w' ⟨rfl, ⟨nd, rfl⟩⟩) | ((with_reducible refine gate_dst (N := 44) rfl ?_); (try (refine gate_guard (by rfl) ?_; dsimp only)); refine Kd.R_lit (Kd.int .i64) _ 3 ?hg (N := 44) ?hd (xs := ([0, 2, 3] : List Int)) (inner := [.int .i64 0, .int .i64 2, .int .i64 3]) (ok := fun _ => True) (okp := fun _ => True) ?hr ?hp (fun _ hk => hk) trivial (Below.refl _ _) (Nat.le_refl _) (by simp) ?_; (case hd => rfl); (case hg => rfl); (case hr => first | (go_simp; done) | (go_simp; rfl)); (case hp => exact (Reps.one (show Kd.M (Kd.int .i64) _ _ _ 0 [.int .i64 0] from rfl) (Reps.one (show Kd.M (Kd.int .i64) _ _ _ 2 [.int .i64 2] from rfl) (Reps.one (show Kd.M (Kd.int .i64) _ _ _ 3 [.int .i64 3] from rfl) (Reps.none _ _))))); intro v425 w24 ho25 hb hg_ hnew_; clear hg_ hnew_; (first | rw [← Ny424.out] at ho25 | (simp only [Int.reduceToNat] at ho25; rw [← Ny424.out] at ho25)); have n0_ := Aside0.mk (Kd.R_below (by (with_reducible repeat (first | apply Kd.R_alloc | apply Kd.R_drewN | apply Kd.R_drew)); exact HO406.out) hb); have n1_ := Aside0.mk (Kd.R_below (by (with_reducible repeat (first | apply Kd.R_alloc | apply Kd.R_drewN | apply Kd.R_drew)); exact HO410.out) hb); have n2_ := Aside0.mk (Kd.R_below (by (with_reducible repeat (first | apply Kd.R_alloc | apply Kd.R_drewN | apply Kd.R_drew)); exact HO413.out) hb); have n3_ := Aside0.mk (Kd.R_elder' (by (with_reducible repeat (first | apply Kd.R_alloc | apply Kd.R_drewN | apply Kd.R_drew)); exact HO416.out) (Kd.R_base ho25) hb); have n4_ := Aside0.mk (Kd.R_below (by (with_reducible repeat (first | apply Kd.R_alloc | apply Kd.R_drewN | apply Kd.R_drew)); exact HO422.out) hb); have n5_ := Aside0.mk (Kd.R_lower (Kd.R_new' ho25 (Kd.R_lt (by (with_reducible repeat (first | apply Kd.R_alloc | apply Kd.R_drewN | apply Kd.R_drew)); exact HO416.out))) (below_size (by repeat (first | (with_reducible first | exact HB.out | apply below_alloc | apply pw_below_drewN | apply below_drew1) | exact HB.out)))); have n6_ := Aside0.mk (below_step (by repeat (first | (with_reducible first | exact HB.out | apply below_alloc | apply pw_below_drewN | apply below_drew1) | exact HB.out)) hb); clear HO406; clear HO410; clear HO413; clear HO416; clear HO422; clear HB; have HO406 := n0_; have HO410 := n1_; have HO413 := n2_; have HO416 := n3_; have HO422 := n4_; have HO426 := n5_; have HB := n6_; clear n0_ n1_ n2_ n3_ n4_ n5_ n6_; clear hb ho25; obtain ⟨Ao26, co26, eo26⟩ := Kd.R_slice HO416.out; subst eo26; obtain ⟨Ao27, co27, eo27⟩ := Kd.R_slice HO426.out; subst eo27) | (go_at_call 28; (with_reducible refine (kimberlitelaw01_alike.calls k _ _ t414 _ _ y424 true _ ?side1 ?side2 ?side3 ?side4 A8.out).mono ?_); (case side1 => repeat (first | exact (Kd.R_reads' HO416.out).2.2 | (with_reducible refine Kd.C_alloc ?_ _) | (with_reducible refine Kd.C_drewN ?_ _) | (with_reducible refine Kd.C_drew ?_))); (case side2 => exact (Kd.R_reads' HO416.out).2.1); (case side3 => repeat (first | exact (Kd.R_reads' HO426.out).2.2 | (with_reducible refine Kd.C_alloc ?_ _) | (with_reducible refine Kd.C_drewN ?_ _) | (with_reducible refine Kd.C_drew ?_))); (case side4 => exact (Kd.R_reads' HO426.out).2.1); rintro e w' ⟨rfl, ⟨nd, rfl⟩⟩))
           go_ret
           exact ⟨by first | rfl | (simp [errW_none, errW_some] <;> rfl) | (simp [*, errW_none, errW_some] <;> rfl), by repeat (first | (with_reducible first | exact HB.out | apply below_alloc | apply pw_below_drewN | apply below_drew1) | exact HB.out)⟩
         · rw [if_neg c10] at H
           have c10b0 : (t419 == 0) = false := beq_eq_false_iff_ne.mpr c10
           have c10b1 : (t419 != 0) = true := bne_iff_ne.mpr c10
           obtain rfl := Option.some.inj H
           go_enter Try.func16, Try.ntmps16
           go_wp2_with (first | ((with_reducible refine gate_dst (N := 11) rfl ?_); (try (refine gate_guard (by rfl) ?_; dsimp only)); refine Kd.R_lit k32 _ 32 ?hg (N := 11) ?hd (xs := ([(⟨5, 9⟩ : S32), (⟨1, 3⟩ : S32), (⟨3, 5⟩ : S32)] : List (S32))) (inner := [.int .i64 5, .int .i64 9, .int .i64 1, .int .i64 3, .int .i64 3, .int .i64 5]) (ok := fun _ => True) (okp := fun _ => True) ?hr ?hp (fun _ hk => hk) trivial (Below.refl _ _) (Nat.le_refl _) (by simp) ?_; (case hd => rfl); (case hg => rfl); (case hr => first | (go_simp; done) | (go_simp; rfl)); (case hp => exact (Reps.c2 (show Kd.M k32 _ _ _ (⟨5, 9⟩ : S32) [.int .i64 5, .int .i64 9] from (k32_mkM _ _ _ (⟨5, 9⟩ : S32) )) (Reps.c2 (show Kd.M k32 _ _ _ (⟨1, 3⟩ : S32) [.int .i64 1, .int .i64 3] from (k32_mkM _ _ _ (⟨1, 3⟩ : S32) )) (Reps.c2 (show Kd.M k32 _ _ _ (⟨3, 5⟩ : S32) [.int .i64 3, .int .i64 5] from (k32_mkM _ _ _ (⟨3, 5⟩ : S32) )) (Reps.none _ _))))); intro v405 w28 ho29 hb hg_ hnew_; clear hg_ hnew_; (first | rw [← Ny404.out] at ho29 | (simp only [Int.reduceToNat] at ho29; rw [← Ny404.out] at ho29)); have n0_ := Aside0.mk (Kd.R_lower ho29 (below_size (by repeat (first | (with_reducible first | exact HB.out | apply below_alloc | apply pw_below_drewN | apply below_drew1) | exact HB.out)))); have n1_ := Aside0.mk (below_step (by repeat (first | (with_reducible first | exact HB.out | apply below_alloc | apply pw_below_drewN | apply below_drew1) | exact HB.out)) hb); clear HB; have HO406 := n0_; have HB := n1_; clear n0_ n1_; clear hb ho29; obtain ⟨Ao30, co30, eo30⟩ := Kd.R_slice HO406.out; subst eo30) | ((with_reducible refine gate_callee (f := 19) rfl ?_); refine goesL_ (some 12) rfl rfl Try.func19 (by kernel_rfl) rfl #[.slice Ao30 y404.length co30] rfl (by (try simp only [List.map_toArray, List.map_cons, List.map_nil]); first | done | rfl | (simp only [List.length_drop, List.length_take]; rfl)) ?_; (with_reducible refine (span_Of.calls k _ _ y404 t407 t408 _ ?side1 ?side2 A1.out).mono ?_); (case side1 => repeat (first | exact (Kd.R_reads' HO406.out).2.2 | (with_reducible refine Kd.C_alloc ?_ _) | (with_reducible refine Kd.C_drewN ?_ _) | (with_reducible refine Kd.C_drew ?_))); (case side2 => exact (Kd.R_reads' HO406.out).2.1); rintro e w31 ⟨v409, rfl, ho0, hb⟩; refine ⟨_, rfl, ?_⟩; have n0_ := Aside0.mk (Kd.R_elder' (by (with_reducible repeat (first | apply Kd.R_alloc | apply Kd.R_drewN | apply Kd.R_drew)); exact HO406.out) (Kd.R_base ho0) hb); have n1_ := Aside0.mk (Kd.R_lower (Kd.R_new' ho0 (Kd.R_lt (by (with_reducible repeat (first | apply Kd.R_alloc | apply Kd.R_drewN | apply Kd.R_drew)); exact HO406.out))) (below_size (by repeat (first | (with_reducible first | exact HB.out | apply below_alloc | apply pw_below_drewN | apply below_drew1) | exact HB.out)))); have n2_ := Aside0.mk (below_step (by repeat (first | (with_reducible first | exact HB.out | apply below_alloc | apply pw_below_drewN | apply below_drew1) | exact HB.out)) hb); clear HO406; clear HB; have HO406 := n0_; have HO410 := n1_; have HB := n2_; clear n0_ n1_ n2_; (try clear hb); (try clear hb2); (try clear hk); (try clear hi); (try clear ho0)) | ((with_reducible refine gate_dst (N := 21) rfl ?_); (try (refine gate_guard (by rfl) ?_; dsimp only)); refine Kd.R_lit k32 _ 32 ?hg (N := 21) ?hd (xs := ([(⟨0, 4⟩ : S32), (⟨0, 3⟩ : S32), (⟨3, 8⟩ : S32), (⟨6, 10⟩ : S32)] : List (S32))) (inner := [.int .i64 0, .int .i64 4, .int .i64 0, .int .i64 3, .int .i64 3, .int .i64 8, .int .i64 6, .int .i64 10]) (ok := fun _ => True) (okp := fun _ => True) ?hr ?hp (fun _ hk => hk) trivial (Below.refl _ _) (Nat.le_refl _) (by simp) ?_; (case hd => rfl); (case hg => rfl); (case hr => first | (go_simp; done) | (go_simp; rfl)); (case hp => exact (Reps.c2 (show Kd.M k32 _ _ _ (⟨0, 4⟩ : S32) [.int .i64 0, .int .i64 4] from (k32_mkM _ _ _ (⟨0, 4⟩ : S32) )) (Reps.c2 (show Kd.M k32 _ _ _ (⟨0, 3⟩ : S32) [.int .i64 0, .int .i64 3] from (k32_mkM _ _ _ (⟨0, 3⟩ : S32) )) (Reps.c2 (show Kd.M k32 _ _ _ (⟨3, 8⟩ : S32) [.int .i64 3, .int .i64 8] from (k32_mkM _ _ _ (⟨3, 8⟩ : S32) )) (Reps.c2 (show Kd.M k32 _ _ _ (⟨6, 10⟩ : S32) [.int .i64 6, .int .i64 10] from (k32_mkM _ _ _ (⟨6, 10⟩ : S32) )) (Reps.none _ _)))))); intro v412 w32 ho33 hb hg_ hnew_; clear hg_ hnew_; (first | rw [← Ny411.out] at ho33 | (simp only [Int.reduceToNat] at ho33; rw [← Ny411.out] at ho33)); have n0_ := Aside0.mk (Kd.R_elder' (by (with_reducible repeat (first | apply Kd.R_alloc | apply Kd.R_drewN | apply Kd.R_drew)); exact HO406.out) (Kd.R_base ho33) hb); have n1_ := Aside0.mk (Kd.R_elder' (by (with_reducible repeat (first | apply Kd.R_alloc | apply Kd.R_drewN | apply Kd.R_drew)); exact HO410.out) (Kd.R_base ho33) hb); have n2_ := Aside0.mk (Kd.R_lower (Kd.R_new' (Kd.R_new' ho33 (Kd.R_lt (by (with_reducible repeat (first | apply Kd.R_alloc | apply Kd.R_drewN | apply Kd.R_drew)); exact HO406.out))) (Kd.R_lt (by (with_reducible repeat (first | apply Kd.R_alloc | apply Kd.R_drewN | apply Kd.R_drew)); exact HO410.out))) (below_size (by repeat (first | (with_reducible first | exact HB.out | apply below_alloc | apply pw_below_drewN | apply below_drew1) | exact HB.out)))); have n3_ := Aside0.mk (below_step (by repeat (first | (with_reducible first | exact HB.out | apply below_alloc | apply pw_below_drewN | apply below_drew1) | exact HB.out)) hb); clear HO406; clear HO410; clear HB; have HO406 := n0_; have HO410 := n1_; have HO413 := n2_; have HB := n3_; clear n0_ n1_ n2_ n3_; clear hb ho33; obtain ⟨Ao34, co34, eo34⟩ := Kd.R_slice HO413.out; subst eo34) | ((with_reducible refine gate_callee (f := 25) rfl ?_); refine goesL_ (some 22) rfl rfl Try.func25 (by kernel_rfl) rfl #[.agg #[.int .i64 0, .int .i64 10], .slice Ao34 y411.length co34] rfl (by (try simp only [List.map_toArray, List.map_cons, List.map_nil]); first | done | rfl | (simp only [List.length_drop, List.length_take]; rfl)) ?_; (with_reducible refine (span_Cover.calls k 0 10 _ _ y411 t414 t417 _ ?side1 ?side2 A2.out).mono ?_); (case side1 => repeat (first | exact (Kd.R_reads' HO413.out).2.2 | (with_reducible refine Kd.C_alloc ?_ _) | (with_reducible refine Kd.C_drewN ?_ _) | (with_reducible refine Kd.C_drew ?_))); (case side2 => exact (Kd.R_reads' HO413.out).2.1); rintro e w35 ⟨v415, rfl, ho0, hb⟩; refine ⟨_, rfl, ?_⟩; have n0_ := Aside0.mk (Kd.R_below (by (with_reducible repeat (first | apply Kd.R_alloc | apply Kd.R_drewN | apply Kd.R_drew)); exact HO406.out) hb); have n1_ := Aside0.mk (Kd.R_below (by (with_reducible repeat (first | apply Kd.R_alloc | apply Kd.R_drewN | apply Kd.R_drew)); exact HO410.out) hb); have n2_ := Aside0.mk (Kd.R_below (by (with_reducible repeat (first | apply Kd.R_alloc | apply Kd.R_drewN | apply Kd.R_drew)); exact HO413.out) hb); have n3_ := Aside0.mk (Kd.R_lower ho0 (below_size (by repeat (first | (with_reducible first | exact HB.out | apply below_alloc | apply pw_below_drewN | apply below_drew1) | exact HB.out)))); have n4_ := Aside0.mk (below_step (by repeat (first | (with_reducible first | exact HB.out | apply below_alloc | apply pw_below_drewN | apply below_drew1) | exact HB.out)) hb); clear HO406; clear HO410; clear HO413; clear HB; have HO406 := n0_; have HO410 := n1_; have HO413 := n2_; have HO416 := n3_; have HB := n4_; clear n0_ n1_ n2_ n3_ n4_; (try clear hb); (try clear hb2); (try clear hk); (try clear hi); (try clear ho0); obtain ⟨Ao36, co36, eo36⟩ := Kd.R_slice HO410.out; subst eo36) | ((with_reducible refine gate_callee (f := 32) rfl ?_); refine goesL_ (some 27) rfl rfl Try.func32 (by kernel_rfl) rfl #[.slice Ao36 t407.length co36] rfl (by (try simp only [List.map_toArray, List.map_cons, List.map_nil]); first | done | rfl | (simp only [List.length_drop, List.length_take]; rfl)) ?_; (with_reducible refine (span_Size.calls k _ _ t407 t418 t419 _ ?side1 ?side2 A3.out).mono ?_); (case side1 => repeat (first | exact (Kd.R_reads' HO410.out).2.2 | (with_reducible refine Kd.C_alloc ?_ _) | (with_reducible refine Kd.C_drewN ?_ _) | (with_reducible refine Kd.C_drew ?_))); (case side2 => exact (Kd.R_reads' HO410.out).2.1); rintro e w37 ⟨rfl, hb⟩; refine ⟨_, rfl, ?_⟩; have n0_ := Aside0.mk (Kd.R_below (by (with_reducible repeat (first | apply Kd.R_alloc | apply Kd.R_drewN | apply Kd.R_drew)); exact HO406.out) hb); have n1_ := Aside0.mk (Kd.R_below (by (with_reducible repeat (first | apply Kd.R_alloc | apply Kd.R_drewN | apply Kd.R_drew)); exact HO410.out) hb); have n2_ := Aside0.mk (Kd.R_below (by (with_reducible repeat (first | apply Kd.R_alloc | apply Kd.R_drewN | apply Kd.R_drew)); exact HO413.out) hb); have n3_ := Aside0.mk (Kd.R_below (by (with_reducible repeat (first | apply Kd.R_alloc | apply Kd.R_drewN | apply Kd.R_drew)); exact HO416.out) hb); have n4_ := Aside0.mk (below_step (by repeat (first | (with_reducible first | exact HB.out | apply below_alloc | apply pw_below_drewN | apply below_drew1) | exact HB.out)) hb); clear HO406; clear HO410; clear HO413; clear HO416; clear HB; have HO406 := n0_; have HO410 := n1_; have HO413 := n2_; have HO416 := n3_; have HB := n4_; clear n0_ n1_ n2_ n3_ n4_; (try clear hb); (try clear hb2); (try clear hk); (try clear hi)) | ((with_reducible refine gate_dst (N := 35) rfl ?_); (try (refine gate_guard (by rfl) ?_; dsimp only)); refine Kd.R_lit k32 _ 32 ?hg (N := 35) ?hd (xs := ([(⟨1, 9⟩ : S32)] : List (S32))) (inner := [.int .i64 1, .int .i64 9]) (ok := fun _ => True) (okp := fun _ => True) ?hr ?hp (fun _ hk => hk) trivial (Below.refl _ _) (Nat.le_refl _) (by simp) ?_; (case hd => rfl); (case hg => rfl); (case hr => first | (go_simp; done) | (go_simp; rfl)); (case hp => exact (Reps.c2 (show Kd.M k32 _ _ _ (⟨1, 9⟩ : S32) [.int .i64 1, .int .i64 9] from (k32_mkM _ _ _ (⟨1, 9⟩ : S32) )) (Reps.none _ _))); intro v421 w38 ho39 hb hg_ hnew_; clear hg_ hnew_; (first | rw [← Ny420.out] at ho39 | (simp only [Int.reduceToNat] at ho39; rw [← Ny420.out] at ho39)); have n0_ := Aside0.mk (Kd.R_elder' (by (with_reducible repeat (first | apply Kd.R_alloc | apply Kd.R_drewN | apply Kd.R_drew)); exact HO406.out) (Kd.R_base ho39) hb); have n1_ := Aside0.mk (Kd.R_elder' (by (with_reducible repeat (first | apply Kd.R_alloc | apply Kd.R_drewN | apply Kd.R_drew)); exact HO410.out) (Kd.R_base ho39) hb); have n2_ := Aside0.mk (Kd.R_elder' (by (with_reducible repeat (first | apply Kd.R_alloc | apply Kd.R_drewN | apply Kd.R_drew)); exact HO413.out) (Kd.R_base ho39) hb); have n3_ := Aside0.mk (Kd.R_below (by (with_reducible repeat (first | apply Kd.R_alloc | apply Kd.R_drewN | apply Kd.R_drew)); exact HO416.out) hb); have n4_ := Aside0.mk (Kd.R_lower (Kd.R_new' (Kd.R_new' (Kd.R_new' ho39 (Kd.R_lt (by (with_reducible repeat (first | apply Kd.R_alloc | apply Kd.R_drewN | apply Kd.R_drew)); exact HO406.out))) (Kd.R_lt (by (with_reducible repeat (first | apply Kd.R_alloc | apply Kd.R_drewN | apply Kd.R_drew)); exact HO410.out))) (Kd.R_lt (by (with_reducible repeat (first | apply Kd.R_alloc | apply Kd.R_drewN | apply Kd.R_drew)); exact HO413.out))) (below_size (by repeat (first | (with_reducible first | exact HB.out | apply below_alloc | apply pw_below_drewN | apply below_drew1) | exact HB.out)))); have n5_ := Aside0.mk (below_step (by repeat (first | (with_reducible first | exact HB.out | apply below_alloc | apply pw_below_drewN | apply below_drew1) | exact HB.out)) hb); clear HO406; clear HO410; clear HO413; clear HO416; clear HB; have HO406 := n0_; have HO410 := n1_; have HO413 := n2_; have HO416 := n3_; have HO422 := n4_; have HB := n5_; clear n0_ n1_ n2_ n3_ n4_ n5_; clear hb ho39; obtain ⟨Ao40, co40, eo40⟩ := Kd.R_slice HO422.out; subst eo40) | (go_at_call 20; (with_reducible refine (kimberlitelaw01_same.calls k _ _ t407 _ _ y420 true _ ?side1 ?side2 ?side3 ?side4 A5.out).mono ?_); (case side1 => repeat (first | exact (Kd.R_reads' HO410.out).2.2 | (with_reducible refine Kd.C_alloc ?_ _) | (with_reducible refine Kd.C_drewN ?_ _) | (with_reducible refine Kd.C_drew ?_))); (case side2 => exact (Kd.R_reads' HO410.out).2.1); (case side3 => repeat (first | exact (Kd.R_reads' HO422.out).2.2 | (with_reducible refine Kd.C_alloc ?_ _) | (with_reducible refine Kd.C_drewN ?_ _) | (with_reducible refine Kd.C_drew ?_))); (case side4 => exact (Kd.R_reads' HO422.out).2.1); rintro e w' ⟨rfl, ⟨nd, rfl⟩⟩) | ((with_reducible refine gate_dst (N := 44) rfl ?_); (try (refine gate_guard (by rfl) ?_; dsimp only)); refine Kd.R_lit (Kd.int .i64) _ 3 ?hg (N := 44) ?hd (xs := ([0, 2, 3] : List Int)) (inner := [.int .i64 0, .int .i64 2, .int .i64 3]) (ok := fun _ => True) (okp := fun _ => True) ?hr ?hp (fun _ hk => hk) trivial (Below.refl _ _) (Nat.le_refl _) (by simp) ?_; (case hd => rfl); (case hg => rfl); (case hr => first | (go_simp; done) | (go_simp; rfl)); (case hp => exact (Reps.one (show Kd.M (Kd.int .i64) _ _ _ 0 [.int .i64 0] from rfl) (Reps.one (show Kd.M (Kd.int .i64) _ _ _ 2 [.int .i64 2] from rfl) (Reps.one (show Kd.M (Kd.int .i64) _ _ _ 3 [.int .i64 3] from rfl) (Reps.none _ _))))); intro v425 w41 ho42 hb hg_ hnew_; clear hg_ hnew_; (first | rw [← Ny424.out] at ho42 | (simp only [Int.reduceToNat] at ho42; rw [← Ny424.out] at ho42)); have n0_ := Aside0.mk (Kd.R_below (by (with_reducible repeat (first | apply Kd.R_alloc | apply Kd.R_drewN | apply Kd.R_drew)); exact HO406.out) hb); have n1_ := Aside0.mk (Kd.R_below (by (with_reducible repeat (first | apply Kd.R_alloc | apply Kd.R_drewN | apply Kd.R_drew)); exact HO410.out) hb); have n2_ := Aside0.mk (Kd.R_below (by (with_reducible repeat (first | apply Kd.R_alloc | apply Kd.R_drewN | apply Kd.R_drew)); exact HO413.out) hb); have n3_ := Aside0.mk (Kd.R_elder' (by (with_reducible repeat (first | apply Kd.R_alloc | apply Kd.R_drewN | apply Kd.R_drew)); exact HO416.out) (Kd.R_base ho42) hb); have n4_ := Aside0.mk (Kd.R_below (by (with_reducible repeat (first | apply Kd.R_alloc | apply Kd.R_drewN | apply Kd.R_drew)); exact HO422.out) hb); have n5_ := Aside0.mk (Kd.R_lower (Kd.R_new' ho42 (Kd.R_lt (by (with_reducible repeat (first | apply Kd.R_alloc | apply Kd.R_drewN | apply Kd.R_drew)); exact HO416.out))) (below_size (by repeat (first | (with_reducible first | exact HB.out | apply below_alloc | apply pw_below_drewN | apply below_drew1) | exact HB.out)))); have n6_ := Aside0.mk (below_step (by repeat (first | (with_reducible first | exact HB.out | apply below_alloc | apply pw_below_drewN | apply below_drew1) | exact HB.out)) hb); clear HO406; clear HO410; clear HO413; clear HO416; clear HO422; clear HB; have HO406 := n0_; have HO410 := n1_; have HO413 := n2_; have HO416 := n3_; have HO422 := n4_; have HO426 := n5_; have HB := n6_; clear n0_ n1_ n2_ n3_ n4_ n5_ n6_; clear hb ho42; obtain ⟨Ao43, co43, eo43⟩ := Kd.R_slice HO416.out; subst eo43; obtain ⟨Ao44, co44, eo44⟩ := Kd.R_slice HO426.out; subst eo44) | (go_at_call 28; (with_reducible refine (kimberlitelaw01_alike.calls k _ _ t414 _ _ y424 true _ ?side1 ?side2 ?side3 ?side4 A8.out).mono ?_); (case side1 => repeat (first | exact (Kd.R_reads' HO416.out).2.2 | (with_reducible refine Kd.C_alloc ?_ _) | (with_reducible refine Kd.C_drewN ?_ _) | (with_reducible refine Kd.C_drew ?_))); (case side2 => exact (Kd.R_reads' HO416.out).2.1); (case side3 => repeat (first | exact (Kd.R_reads' HO426.out).2.2 | (with_reducible refine Kd.C_alloc ?_ _) | (with_reducible refine Kd.C_drewN ?_ _) | (with_reducible refine Kd.C_drew ?_))); (case side4 => exact (Kd.R_reads' HO426.out).2.1); rintro e w' ⟨rfl, ⟨nd, rfl⟩⟩))
           go_ret
           exact ⟨by first | rfl | (simp [errW_none, errW_some] <;> rfl) | (simp [*, errW_none, errW_some] <;> rfl), by repeat (first | (with_reducible first | exact HB.out | apply below_alloc | apply pw_below_drewN | apply below_drew1) | exact HB.out)⟩
       · replace c9 := Bool.eq_false_iff.mpr c9
         subst c9
         have H1 : (some false) = some r := by rw [if_neg (show ¬ (false = true) by decide)] at H; exact H
         clear H
         have H := H1
         clear H1
         obtain rfl := Option.some.inj H
         go_enter Try.func16, Try.ntmps16
         go_wp2_with (first | ((with_reducible refine gate_dst (N := 11) rfl ?_); (try (refine gate_guard (by rfl) ?_; dsimp only)); refine Kd.R_lit k32 _ 32 ?hg (N := 11) ?hd (xs := ([(⟨5, 9⟩ : S32), (⟨1, 3⟩ : S32), (⟨3, 5⟩ : S32)] : List (S32))) (inner := [.int .i64 5, .int .i64 9, .int .i64 1, .int .i64 3, .int .i64 3, .int .i64 5]) (ok := fun _ => True) (okp := fun _ => True) ?hr ?hp (fun _ hk => hk) trivial (Below.refl _ _) (Nat.le_refl _) (by simp) ?_; (case hd => rfl); (case hg => rfl); (case hr => first | (go_simp; done) | (go_simp; rfl)); (case hp => exact (Reps.c2 (show Kd.M k32 _ _ _ (⟨5, 9⟩ : S32) [.int .i64 5, .int .i64 9] from (k32_mkM _ _ _ (⟨5, 9⟩ : S32) )) (Reps.c2 (show Kd.M k32 _ _ _ (⟨1, 3⟩ : S32) [.int .i64 1, .int .i64 3] from (k32_mkM _ _ _ (⟨1, 3⟩ : S32) )) (Reps.c2 (show Kd.M k32 _ _ _ (⟨3, 5⟩ : S32) [.int .i64 3, .int .i64 5] from (k32_mkM _ _ _ (⟨3, 5⟩ : S32) )) (Reps.none _ _))))); intro v405 w45 ho46 hb hg_ hnew_; clear hg_ hnew_; (first | rw [← Ny404.out] at ho46 | (simp only [Int.reduceToNat] at ho46; rw [← Ny404.out] at ho46)); have n0_ := Aside0.mk (Kd.R_lower ho46 (below_size (by repeat (first | (with_reducible first | exact HB.out | apply below_alloc | apply pw_below_drewN | apply below_drew1) | exact HB.out)))); have n1_ := Aside0.mk (below_step (by repeat (first | (with_reducible first | exact HB.out | apply below_alloc | apply pw_below_drewN | apply below_drew1) | exact HB.out)) hb); clear HB; have HO406 := n0_; have HB := n1_; clear n0_ n1_; clear hb ho46; obtain ⟨Ao47, co47, eo47⟩ := Kd.R_slice HO406.out; subst eo47) | ((with_reducible refine gate_callee (f := 19) rfl ?_); refine goesL_ (some 12) rfl rfl Try.func19 (by kernel_rfl) rfl #[.slice Ao47 y404.length co47] rfl (by (try simp only [List.map_toArray, List.map_cons, List.map_nil]); first | done | rfl | (simp only [List.length_drop, List.length_take]; rfl)) ?_; (with_reducible refine (span_Of.calls k _ _ y404 t407 t408 _ ?side1 ?side2 A1.out).mono ?_); (case side1 => repeat (first | exact (Kd.R_reads' HO406.out).2.2 | (with_reducible refine Kd.C_alloc ?_ _) | (with_reducible refine Kd.C_drewN ?_ _) | (with_reducible refine Kd.C_drew ?_))); (case side2 => exact (Kd.R_reads' HO406.out).2.1); rintro e w48 ⟨v409, rfl, ho0, hb⟩; refine ⟨_, rfl, ?_⟩; have n0_ := Aside0.mk (Kd.R_elder' (by (with_reducible repeat (first | apply Kd.R_alloc | apply Kd.R_drewN | apply Kd.R_drew)); exact HO406.out) (Kd.R_base ho0) hb); have n1_ := Aside0.mk (Kd.R_lower (Kd.R_new' ho0 (Kd.R_lt (by (with_reducible repeat (first | apply Kd.R_alloc | apply Kd.R_drewN | apply Kd.R_drew)); exact HO406.out))) (below_size (by repeat (first | (with_reducible first | exact HB.out | apply below_alloc | apply pw_below_drewN | apply below_drew1) | exact HB.out)))); have n2_ := Aside0.mk (below_step (by repeat (first | (with_reducible first | exact HB.out | apply below_alloc | apply pw_below_drewN | apply below_drew1) | exact HB.out)) hb); clear HO406; clear HB; have HO406 := n0_; have HO410 := n1_; have HB := n2_; clear n0_ n1_ n2_; (try clear hb); (try clear hb2); (try clear hk); (try clear hi); (try clear ho0)) | ((with_reducible refine gate_dst (N := 21) rfl ?_); (try (refine gate_guard (by rfl) ?_; dsimp only)); refine Kd.R_lit k32 _ 32 ?hg (N := 21) ?hd (xs := ([(⟨0, 4⟩ : S32), (⟨0, 3⟩ : S32), (⟨3, 8⟩ : S32), (⟨6, 10⟩ : S32)] : List (S32))) (inner := [.int .i64 0, .int .i64 4, .int .i64 0, .int .i64 3, .int .i64 3, .int .i64 8, .int .i64 6, .int .i64 10]) (ok := fun _ => True) (okp := fun _ => True) ?hr ?hp (fun _ hk => hk) trivial (Below.refl _ _) (Nat.le_refl _) (by simp) ?_; (case hd => rfl); (case hg => rfl); (case hr => first | (go_simp; done) | (go_simp; rfl)); (case hp => exact (Reps.c2 (show Kd.M k32 _ _ _ (⟨0, 4⟩ : S32) [.int .i64 0, .int .i64 4] from (k32_mkM _ _ _ (⟨0, 4⟩ : S32) )) (Reps.c2 (show Kd.M k32 _ _ _ (⟨0, 3⟩ : S32) [.int .i64 0, .int .i64 3] from (k32_mkM _ _ _ (⟨0, 3⟩ : S32) )) (Reps.c2 (show Kd.M k32 _ _ _ (⟨3, 8⟩ : S32) [.int .i64 3, .int .i64 8] from (k32_mkM _ _ _ (⟨3, 8⟩ : S32) )) (Reps.c2 (show Kd.M k32 _ _ _ (⟨6, 10⟩ : S32) [.int .i64 6, .int .i64 10] from (k32_mkM _ _ _ (⟨6, 10⟩ : S32) )) (Reps.none _ _)))))); intro v412 w49 ho50 hb hg_ hnew_; clear hg_ hnew_; (first | rw [← Ny411.out] at ho50 | (simp only [Int.reduceToNat] at ho50; rw [← Ny411.out] at ho50)); have n0_ := Aside0.mk (Kd.R_elder' (by (with_reducible repeat (first | apply Kd.R_alloc | apply Kd.R_drewN | apply Kd.R_drew)); exact HO406.out) (Kd.R_base ho50) hb); have n1_ := Aside0.mk (Kd.R_elder' (by (with_reducible repeat (first | apply Kd.R_alloc | apply Kd.R_drewN | apply Kd.R_drew)); exact HO410.out) (Kd.R_base ho50) hb); have n2_ := Aside0.mk (Kd.R_lower (Kd.R_new' (Kd.R_new' ho50 (Kd.R_lt (by (with_reducible repeat (first | apply Kd.R_alloc | apply Kd.R_drewN | apply Kd.R_drew)); exact HO406.out))) (Kd.R_lt (by (with_reducible repeat (first | apply Kd.R_alloc | apply Kd.R_drewN | apply Kd.R_drew)); exact HO410.out))) (below_size (by repeat (first | (with_reducible first | exact HB.out | apply below_alloc | apply pw_below_drewN | apply below_drew1) | exact HB.out)))); have n3_ := Aside0.mk (below_step (by repeat (first | (with_reducible first | exact HB.out | apply below_alloc | apply pw_below_drewN | apply below_drew1) | exact HB.out)) hb); clear HO406; clear HO410; clear HB; have HO406 := n0_; have HO410 := n1_; have HO413 := n2_; have HB := n3_; clear n0_ n1_ n2_ n3_; clear hb ho50; obtain ⟨Ao51, co51, eo51⟩ := Kd.R_slice HO413.out; subst eo51) | ((with_reducible refine gate_callee (f := 25) rfl ?_); refine goesL_ (some 22) rfl rfl Try.func25 (by kernel_rfl) rfl #[.agg #[.int .i64 0, .int .i64 10], .slice Ao51 y411.length co51] rfl (by (try simp only [List.map_toArray, List.map_cons, List.map_nil]); first | done | rfl | (simp only [List.length_drop, List.length_take]; rfl)) ?_; (with_reducible refine (span_Cover.calls k 0 10 _ _ y411 t414 t417 _ ?side1 ?side2 A2.out).mono ?_); (case side1 => repeat (first | exact (Kd.R_reads' HO413.out).2.2 | (with_reducible refine Kd.C_alloc ?_ _) | (with_reducible refine Kd.C_drewN ?_ _) | (with_reducible refine Kd.C_drew ?_))); (case side2 => exact (Kd.R_reads' HO413.out).2.1); rintro e w52 ⟨v415, rfl, ho0, hb⟩; refine ⟨_, rfl, ?_⟩; have n0_ := Aside0.mk (Kd.R_below (by (with_reducible repeat (first | apply Kd.R_alloc | apply Kd.R_drewN | apply Kd.R_drew)); exact HO406.out) hb); have n1_ := Aside0.mk (Kd.R_below (by (with_reducible repeat (first | apply Kd.R_alloc | apply Kd.R_drewN | apply Kd.R_drew)); exact HO410.out) hb); have n2_ := Aside0.mk (Kd.R_below (by (with_reducible repeat (first | apply Kd.R_alloc | apply Kd.R_drewN | apply Kd.R_drew)); exact HO413.out) hb); have n3_ := Aside0.mk (Kd.R_lower ho0 (below_size (by repeat (first | (with_reducible first | exact HB.out | apply below_alloc | apply pw_below_drewN | apply below_drew1) | exact HB.out)))); have n4_ := Aside0.mk (below_step (by repeat (first | (with_reducible first | exact HB.out | apply below_alloc | apply pw_below_drewN | apply below_drew1) | exact HB.out)) hb); clear HO406; clear HO410; clear HO413; clear HB; have HO406 := n0_; have HO410 := n1_; have HO413 := n2_; have HO416 := n3_; have HB := n4_; clear n0_ n1_ n2_ n3_ n4_; (try clear hb); (try clear hb2); (try clear hk); (try clear hi); (try clear ho0); obtain ⟨Ao53, co53, eo53⟩ := Kd.R_slice HO410.out; subst eo53) | ((with_reducible refine gate_callee (f := 32) rfl ?_); refine goesL_ (some 27) rfl rfl Try.func32 (by kernel_rfl) rfl #[.slice Ao53 t407.length co53] rfl (by (try simp only [List.map_toArray, List.map_cons, List.map_nil]); first | done | rfl | (simp only [List.length_drop, List.length_take]; rfl)) ?_; (with_reducible refine (span_Size.calls k _ _ t407 t418 t419 _ ?side1 ?side2 A3.out).mono ?_); (case side1 => repeat (first | exact (Kd.R_reads' HO410.out).2.2 | (with_reducible refine Kd.C_alloc ?_ _) | (with_reducible refine Kd.C_drewN ?_ _) | (with_reducible refine Kd.C_drew ?_))); (case side2 => exact (Kd.R_reads' HO410.out).2.1); rintro e w54 ⟨rfl, hb⟩; refine ⟨_, rfl, ?_⟩; have n0_ := Aside0.mk (Kd.R_below (by (with_reducible repeat (first | apply Kd.R_alloc | apply Kd.R_drewN | apply Kd.R_drew)); exact HO406.out) hb); have n1_ := Aside0.mk (Kd.R_below (by (with_reducible repeat (first | apply Kd.R_alloc | apply Kd.R_drewN | apply Kd.R_drew)); exact HO410.out) hb); have n2_ := Aside0.mk (Kd.R_below (by (with_reducible repeat (first | apply Kd.R_alloc | apply Kd.R_drewN | apply Kd.R_drew)); exact HO413.out) hb); have n3_ := Aside0.mk (Kd.R_below (by (with_reducible repeat (first | apply Kd.R_alloc | apply Kd.R_drewN | apply Kd.R_drew)); exact HO416.out) hb); have n4_ := Aside0.mk (below_step (by repeat (first | (with_reducible first | exact HB.out | apply below_alloc | apply pw_below_drewN | apply below_drew1) | exact HB.out)) hb); clear HO406; clear HO410; clear HO413; clear HO416; clear HB; have HO406 := n0_; have HO410 := n1_; have HO413 := n2_; have HO416 := n3_; have HB := n4_; clear n0_ n1_ n2_ n3_ n4_; (try clear hb); (try clear hb2); (try clear hk); (try clear hi)) | ((with_reducible refine gate_dst (N := 35) rfl ?_); (try (refine gate_guard (by rfl) ?_; dsimp only)); refine Kd.R_lit k32 _ 32 ?hg (N := 35) ?hd (xs := ([(⟨1, 9⟩ : S32)] : List (S32))) (inner := [.int .i64 1, .int .i64 9]) (ok := fun _ => True) (okp := fun _ => True) ?hr ?hp (fun _ hk => hk) trivial (Below.refl _ _) (Nat.le_refl _) (by simp) ?_; (case hd => rfl); (case hg => rfl); (case hr => first | (go_simp; done) | (go_simp; rfl)); (case hp => exact (Reps.c2 (show Kd.M k32 _ _ _ (⟨1, 9⟩ : S32) [.int .i64 1, .int .i64 9] from (k32_mkM _ _ _ (⟨1, 9⟩ : S32) )) (Reps.none _ _))); intro v421 w55 ho56 hb hg_ hnew_; clear hg_ hnew_; (first | rw [← Ny420.out] at ho56 | (simp only [Int.reduceToNat] at ho56; rw [← Ny420.out] at ho56)); have n0_ := Aside0.mk (Kd.R_elder' (by (with_reducible repeat (first | apply Kd.R_alloc | apply Kd.R_drewN | apply Kd.R_drew)); exact HO406.out) (Kd.R_base ho56) hb); have n1_ := Aside0.mk (Kd.R_elder' (by (with_reducible repeat (first | apply Kd.R_alloc | apply Kd.R_drewN | apply Kd.R_drew)); exact HO410.out) (Kd.R_base ho56) hb); have n2_ := Aside0.mk (Kd.R_elder' (by (with_reducible repeat (first | apply Kd.R_alloc | apply Kd.R_drewN | apply Kd.R_drew)); exact HO413.out) (Kd.R_base ho56) hb); have n3_ := Aside0.mk (Kd.R_below (by (with_reducible repeat (first | apply Kd.R_alloc | apply Kd.R_drewN | apply Kd.R_drew)); exact HO416.out) hb); have n4_ := Aside0.mk (Kd.R_lower (Kd.R_new' (Kd.R_new' (Kd.R_new' ho56 (Kd.R_lt (by (with_reducible repeat (first | apply Kd.R_alloc | apply Kd.R_drewN | apply Kd.R_drew)); exact HO406.out))) (Kd.R_lt (by (with_reducible repeat (first | apply Kd.R_alloc | apply Kd.R_drewN | apply Kd.R_drew)); exact HO410.out))) (Kd.R_lt (by (with_reducible repeat (first | apply Kd.R_alloc | apply Kd.R_drewN | apply Kd.R_drew)); exact HO413.out))) (below_size (by repeat (first | (with_reducible first | exact HB.out | apply below_alloc | apply pw_below_drewN | apply below_drew1) | exact HB.out)))); have n5_ := Aside0.mk (below_step (by repeat (first | (with_reducible first | exact HB.out | apply below_alloc | apply pw_below_drewN | apply below_drew1) | exact HB.out)) hb); clear HO406; clear HO410; clear HO413; clear HO416; clear HB; have HO406 := n0_; have HO410 := n1_; have HO413 := n2_; have HO416 := n3_; have HO422 := n4_; have HB := n5_; clear n0_ n1_ n2_ n3_ n4_ n5_; clear hb ho56; obtain ⟨Ao57, co57, eo57⟩ := Kd.R_slice HO422.out; subst eo57) | (go_at_call 20; (with_reducible refine (kimberlitelaw01_same.calls k _ _ t407 _ _ y420 true _ ?side1 ?side2 ?side3 ?side4 A5.out).mono ?_); (case side1 => repeat (first | exact (Kd.R_reads' HO410.out).2.2 | (with_reducible refine Kd.C_alloc ?_ _) | (with_reducible refine Kd.C_drewN ?_ _) | (with_reducible refine Kd.C_drew ?_))); (case side2 => exact (Kd.R_reads' HO410.out).2.1); (case side3 => repeat (first | exact (Kd.R_reads' HO422.out).2.2 | (with_reducible refine Kd.C_alloc ?_ _) | (with_reducible refine Kd.C_drewN ?_ _) | (with_reducible refine Kd.C_drew ?_))); (case side4 => exact (Kd.R_reads' HO422.out).2.1); rintro e w' ⟨rfl, ⟨nd, rfl⟩⟩) | ((with_reducible refine gate_dst (N := 44) rfl ?_); (try (refine gate_guard (by rfl) ?_; dsimp only)); refine Kd.R_lit (Kd.int .i64) _ 3 ?hg (N := 44) ?hd (xs := ([0, 2, 3] : List Int)) (inner := [.int .i64 0, .int .i64 2, .int .i64 3]) (ok := fun _ => True) (okp := fun _ => True) ?hr ?hp (fun _ hk => hk) trivial (Below.refl _ _) (Nat.le_refl _) (by simp) ?_; (case hd => rfl); (case hg => rfl); (case hr => first | (go_simp; done) | (go_simp; rfl)); (case hp => exact (Reps.one (show Kd.M (Kd.int .i64) _ _ _ 0 [.int .i64 0] from rfl) (Reps.one (show Kd.M (Kd.int .i64) _ _ _ 2 [.int .i64 2] from rfl) (Reps.one (show Kd.M (Kd.int .i64) _ _ _ 3 [.int .i64 3] from rfl) (Reps.none _ _))))); intro v425 w58 ho59 hb hg_ hnew_; clear hg_ hnew_; (first | rw [← Ny424.out] at ho59 | (simp only [Int.reduceToNat] at ho59; rw [← Ny424.out] at ho59)); have n0_ := Aside0.mk (Kd.R_below (by (with_reducible repeat (first | apply Kd.R_alloc | apply Kd.R_drewN | apply Kd.R_drew)); exact HO406.out) hb); have n1_ := Aside0.mk (Kd.R_below (by (with_reducible repeat (first | apply Kd.R_alloc | apply Kd.R_drewN | apply Kd.R_drew)); exact HO410.out) hb); have n2_ := Aside0.mk (Kd.R_below (by (with_reducible repeat (first | apply Kd.R_alloc | apply Kd.R_drewN | apply Kd.R_drew)); exact HO413.out) hb); have n3_ := Aside0.mk (Kd.R_elder' (by (with_reducible repeat (first | apply Kd.R_alloc | apply Kd.R_drewN | apply Kd.R_drew)); exact HO416.out) (Kd.R_base ho59) hb); have n4_ := Aside0.mk (Kd.R_below (by (with_reducible repeat (first | apply Kd.R_alloc | apply Kd.R_drewN | apply Kd.R_drew)); exact HO422.out) hb); have n5_ := Aside0.mk (Kd.R_lower (Kd.R_new' ho59 (Kd.R_lt (by (with_reducible repeat (first | apply Kd.R_alloc | apply Kd.R_drewN | apply Kd.R_drew)); exact HO416.out))) (below_size (by repeat (first | (with_reducible first | exact HB.out | apply below_alloc | apply pw_below_drewN | apply below_drew1) | exact HB.out)))); have n6_ := Aside0.mk (below_step (by repeat (first | (with_reducible first | exact HB.out | apply below_alloc | apply pw_below_drewN | apply below_drew1) | exact HB.out)) hb); clear HO406; clear HO410; clear HO413; clear HO416; clear HO422; clear HB; have HO406 := n0_; have HO410 := n1_; have HO413 := n2_; have HO416 := n3_; have HO422 := n4_; have HO426 := n5_; have HB := n6_; clear n0_ n1_ n2_ n3_ n4_ n5_ n6_; clear hb ho59; obtain ⟨Ao60, co60, eo60⟩ := Kd.R_slice HO416.out; subst eo60; obtain ⟨Ao61, co61, eo61⟩ := Kd.R_slice HO426.out; subst eo61) | (go_at_call 28; (with_reducible refine (kimberlitelaw01_alike.calls k _ _ t414 _ _ y424 false _ ?side1 ?side2 ?side3 ?side4 A8.out).mono ?_); (case side1 => repeat (first | exact (Kd.R_reads' HO416.out).2.2 | (with_reducible refine Kd.C_alloc ?_ _) | (with_reducible refine Kd.C_drewN ?_ _) | (with_reducible refine Kd.C_drew ?_))); (case side2 => exact (Kd.R_reads' HO416.out).2.1); (case side3 => repeat (first | exact (Kd.R_reads' HO426.out).2.2 | (with_reducible refine Kd.C_alloc ?_ _) | (with_reducible refine Kd.C_drewN ?_ _) | (with_reducible refine Kd.C_drew ?_))); (case side4 => exact (Kd.R_reads' HO426.out).2.1); rintro e w' ⟨rfl, ⟨nd, rfl⟩⟩))
         go_ret
         exact ⟨by first | rfl | (simp [errW_none, errW_some] <;> rfl) | (simp [*, errW_none, errW_some] <;> rfl), by repeat (first | (with_reducible first | exact HB.out | apply below_alloc | apply pw_below_drewN | apply below_drew1) | exact HB.out)⟩
     · rw [if_neg c7] at H
       have c7b0 : (t417 == 0) = false := beq_eq_false_iff_ne.mpr c7
       have c7b1 : (t417 != 0) = true := bne_iff_ne.mpr c7
       obtain rfl := Option.some.inj H
       go_enter Try.func16, Try.ntmps16
       go_wp2_with (first | ((with_reducible refine gate_dst (N := 11) rfl ?_); (try (refine gate_guard (by rfl) ?_; dsimp only)); refine Kd.R_lit k32 _ 32 ?hg (N := 11) ?hd (xs := ([(⟨5, 9⟩ : S32), (⟨1, 3⟩ : S32), (⟨3, 5⟩ : S32)] : List (S32))) (inner := [.int .i64 5, .int .i64 9, .int .i64 1, .int .i64 3, .int .i64 3, .int .i64 5]) (ok := fun _ => True) (okp := fun _ => True) ?hr ?hp (fun _ hk => hk) trivial (Below.refl _ _) (Nat.le_refl _) (by simp) ?_; (case hd => rfl); (case hg => rfl); (case hr => first | (go_simp; done) | (go_simp; rfl)); (case hp => exact (Reps.c2 (show Kd.M k32 _ _ _ (⟨5, 9⟩ : S32) [.int .i64 5, .int .i64 9] from (k32_mkM _ _ _ (⟨5, 9⟩ : S32) )) (Reps.c2 (show Kd.M k32 _ _ _ (⟨1, 3⟩ : S32) [.int .i64 1, .int .i64 3] from (k32_mkM _ _ _ (⟨1, 3⟩ : S32) )) (Reps.c2 (show Kd.M k32 _ _ _ (⟨3, 5⟩ : S32) [.int .i64 3, .int .i64 5] from (k32_mkM _ _ _ (⟨3, 5⟩ : S32) )) (Reps.none _ _))))); intro v405 w62 ho63 hb hg_ hnew_; clear hg_ hnew_; (first | rw [← Ny404.out] at ho63 | (simp only [Int.reduceToNat] at ho63; rw [← Ny404.out] at ho63)); have n0_ := Aside0.mk (Kd.R_lower ho63 (below_size (by repeat (first | (with_reducible first | exact HB.out | apply below_alloc | apply pw_below_drewN | apply below_drew1) | exact HB.out)))); have n1_ := Aside0.mk (below_step (by repeat (first | (with_reducible first | exact HB.out | apply below_alloc | apply pw_below_drewN | apply below_drew1) | exact HB.out)) hb); clear HB; have HO406 := n0_; have HB := n1_; clear n0_ n1_; clear hb ho63; obtain ⟨Ao64, co64, eo64⟩ := Kd.R_slice HO406.out; subst eo64) | ((with_reducible refine gate_callee (f := 19) rfl ?_); refine goesL_ (some 12) rfl rfl Try.func19 (by kernel_rfl) rfl #[.slice Ao64 y404.length co64] rfl (by (try simp only [List.map_toArray, List.map_cons, List.map_nil]); first | done | rfl | (simp only [List.length_drop, List.length_take]; rfl)) ?_; (with_reducible refine (span_Of.calls k _ _ y404 t407 t408 _ ?side1 ?side2 A1.out).mono ?_); (case side1 => repeat (first | exact (Kd.R_reads' HO406.out).2.2 | (with_reducible refine Kd.C_alloc ?_ _) | (with_reducible refine Kd.C_drewN ?_ _) | (with_reducible refine Kd.C_drew ?_))); (case side2 => exact (Kd.R_reads' HO406.out).2.1); rintro e w65 ⟨v409, rfl, ho0, hb⟩; refine ⟨_, rfl, ?_⟩; have n0_ := Aside0.mk (Kd.R_elder' (by (with_reducible repeat (first | apply Kd.R_alloc | apply Kd.R_drewN | apply Kd.R_drew)); exact HO406.out) (Kd.R_base ho0) hb); have n1_ := Aside0.mk (Kd.R_lower (Kd.R_new' ho0 (Kd.R_lt (by (with_reducible repeat (first | apply Kd.R_alloc | apply Kd.R_drewN | apply Kd.R_drew)); exact HO406.out))) (below_size (by repeat (first | (with_reducible first | exact HB.out | apply below_alloc | apply pw_below_drewN | apply below_drew1) | exact HB.out)))); have n2_ := Aside0.mk (below_step (by repeat (first | (with_reducible first | exact HB.out | apply below_alloc | apply pw_below_drewN | apply below_drew1) | exact HB.out)) hb); clear HO406; clear HB; have HO406 := n0_; have HO410 := n1_; have HB := n2_; clear n0_ n1_ n2_; (try clear hb); (try clear hb2); (try clear hk); (try clear hi); (try clear ho0)) | ((with_reducible refine gate_dst (N := 21) rfl ?_); (try (refine gate_guard (by rfl) ?_; dsimp only)); refine Kd.R_lit k32 _ 32 ?hg (N := 21) ?hd (xs := ([(⟨0, 4⟩ : S32), (⟨0, 3⟩ : S32), (⟨3, 8⟩ : S32), (⟨6, 10⟩ : S32)] : List (S32))) (inner := [.int .i64 0, .int .i64 4, .int .i64 0, .int .i64 3, .int .i64 3, .int .i64 8, .int .i64 6, .int .i64 10]) (ok := fun _ => True) (okp := fun _ => True) ?hr ?hp (fun _ hk => hk) trivial (Below.refl _ _) (Nat.le_refl _) (by simp) ?_; (case hd => rfl); (case hg => rfl); (case hr => first | (go_simp; done) | (go_simp; rfl)); (case hp => exact (Reps.c2 (show Kd.M k32 _ _ _ (⟨0, 4⟩ : S32) [.int .i64 0, .int .i64 4] from (k32_mkM _ _ _ (⟨0, 4⟩ : S32) )) (Reps.c2 (show Kd.M k32 _ _ _ (⟨0, 3⟩ : S32) [.int .i64 0, .int .i64 3] from (k32_mkM _ _ _ (⟨0, 3⟩ : S32) )) (Reps.c2 (show Kd.M k32 _ _ _ (⟨3, 8⟩ : S32) [.int .i64 3, .int .i64 8] from (k32_mkM _ _ _ (⟨3, 8⟩ : S32) )) (Reps.c2 (show Kd.M k32 _ _ _ (⟨6, 10⟩ : S32) [.int .i64 6, .int .i64 10] from (k32_mkM _ _ _ (⟨6, 10⟩ : S32) )) (Reps.none _ _)))))); intro v412 w66 ho67 hb hg_ hnew_; clear hg_ hnew_; (first | rw [← Ny411.out] at ho67 | (simp only [Int.reduceToNat] at ho67; rw [← Ny411.out] at ho67)); have n0_ := Aside0.mk (Kd.R_elder' (by (with_reducible repeat (first | apply Kd.R_alloc | apply Kd.R_drewN | apply Kd.R_drew)); exact HO406.out) (Kd.R_base ho67) hb); have n1_ := Aside0.mk (Kd.R_elder' (by (with_reducible repeat (first | apply Kd.R_alloc | apply Kd.R_drewN | apply Kd.R_drew)); exact HO410.out) (Kd.R_base ho67) hb); have n2_ := Aside0.mk (Kd.R_lower (Kd.R_new' (Kd.R_new' ho67 (Kd.R_lt (by (with_reducible repeat (first | apply Kd.R_alloc | apply Kd.R_drewN | apply Kd.R_drew)); exact HO406.out))) (Kd.R_lt (by (with_reducible repeat (first | apply Kd.R_alloc | apply Kd.R_drewN | apply Kd.R_drew)); exact HO410.out))) (below_size (by repeat (first | (with_reducible first | exact HB.out | apply below_alloc | apply pw_below_drewN | apply below_drew1) | exact HB.out)))); have n3_ := Aside0.mk (below_step (by repeat (first | (with_reducible first | exact HB.out | apply below_alloc | apply pw_below_drewN | apply below_drew1) | exact HB.out)) hb); clear HO406; clear HO410; clear HB; have HO406 := n0_; have HO410 := n1_; have HO413 := n2_; have HB := n3_; clear n0_ n1_ n2_ n3_; clear hb ho67; obtain ⟨Ao68, co68, eo68⟩ := Kd.R_slice HO413.out; subst eo68) | ((with_reducible refine gate_callee (f := 25) rfl ?_); refine goesL_ (some 22) rfl rfl Try.func25 (by kernel_rfl) rfl #[.agg #[.int .i64 0, .int .i64 10], .slice Ao68 y411.length co68] rfl (by (try simp only [List.map_toArray, List.map_cons, List.map_nil]); first | done | rfl | (simp only [List.length_drop, List.length_take]; rfl)) ?_; (with_reducible refine (span_Cover.calls k 0 10 _ _ y411 t414 t417 _ ?side1 ?side2 A2.out).mono ?_); (case side1 => repeat (first | exact (Kd.R_reads' HO413.out).2.2 | (with_reducible refine Kd.C_alloc ?_ _) | (with_reducible refine Kd.C_drewN ?_ _) | (with_reducible refine Kd.C_drew ?_))); (case side2 => exact (Kd.R_reads' HO413.out).2.1); rintro e w69 ⟨v415, rfl, ho0, hb⟩; refine ⟨_, rfl, ?_⟩; have n0_ := Aside0.mk (Kd.R_below (by (with_reducible repeat (first | apply Kd.R_alloc | apply Kd.R_drewN | apply Kd.R_drew)); exact HO406.out) hb); have n1_ := Aside0.mk (Kd.R_below (by (with_reducible repeat (first | apply Kd.R_alloc | apply Kd.R_drewN | apply Kd.R_drew)); exact HO410.out) hb); have n2_ := Aside0.mk (Kd.R_below (by (with_reducible repeat (first | apply Kd.R_alloc | apply Kd.R_drewN | apply Kd.R_drew)); exact HO413.out) hb); have n3_ := Aside0.mk (Kd.R_lower ho0 (below_size (by repeat (first | (with_reducible first | exact HB.out | apply below_alloc | apply pw_below_drewN | apply below_drew1) | exact HB.out)))); have n4_ := Aside0.mk (below_step (by repeat (first | (with_reducible first | exact HB.out | apply below_alloc | apply pw_below_drewN | apply below_drew1) | exact HB.out)) hb); clear HO406; clear HO410; clear HO413; clear HB; have HO406 := n0_; have HO410 := n1_; have HO413 := n2_; have HO416 := n3_; have HB := n4_; clear n0_ n1_ n2_ n3_ n4_; (try clear hb); (try clear hb2); (try clear hk); (try clear hi); (try clear ho0); obtain ⟨Ao70, co70, eo70⟩ := Kd.R_slice HO410.out; subst eo70) | ((with_reducible refine gate_callee (f := 32) rfl ?_); refine goesL_ (some 27) rfl rfl Try.func32 (by kernel_rfl) rfl #[.slice Ao70 t407.length co70] rfl (by (try simp only [List.map_toArray, List.map_cons, List.map_nil]); first | done | rfl | (simp only [List.length_drop, List.length_take]; rfl)) ?_; (with_reducible refine (span_Size.calls k _ _ t407 t418 t419 _ ?side1 ?side2 A3.out).mono ?_); (case side1 => repeat (first | exact (Kd.R_reads' HO410.out).2.2 | (with_reducible refine Kd.C_alloc ?_ _) | (with_reducible refine Kd.C_drewN ?_ _) | (with_reducible refine Kd.C_drew ?_))); (case side2 => exact (Kd.R_reads' HO410.out).2.1); rintro e w71 ⟨rfl, hb⟩; refine ⟨_, rfl, ?_⟩; have n0_ := Aside0.mk (Kd.R_below (by (with_reducible repeat (first | apply Kd.R_alloc | apply Kd.R_drewN | apply Kd.R_drew)); exact HO406.out) hb); have n1_ := Aside0.mk (Kd.R_below (by (with_reducible repeat (first | apply Kd.R_alloc | apply Kd.R_drewN | apply Kd.R_drew)); exact HO410.out) hb); have n2_ := Aside0.mk (Kd.R_below (by (with_reducible repeat (first | apply Kd.R_alloc | apply Kd.R_drewN | apply Kd.R_drew)); exact HO413.out) hb); have n3_ := Aside0.mk (Kd.R_below (by (with_reducible repeat (first | apply Kd.R_alloc | apply Kd.R_drewN | apply Kd.R_drew)); exact HO416.out) hb); have n4_ := Aside0.mk (below_step (by repeat (first | (with_reducible first | exact HB.out | apply below_alloc | apply pw_below_drewN | apply below_drew1) | exact HB.out)) hb); clear HO406; clear HO410; clear HO413; clear HO416; clear HB; have HO406 := n0_; have HO410 := n1_; have HO413 := n2_; have HO416 := n3_; have HB := n4_; clear n0_ n1_ n2_ n3_ n4_; (try clear hb); (try clear hb2); (try clear hk); (try clear hi)) | ((with_reducible refine gate_dst (N := 35) rfl ?_); (try (refine gate_guard (by rfl) ?_; dsimp only)); refine Kd.R_lit k32 _ 32 ?hg (N := 35) ?hd (xs := ([(⟨1, 9⟩ : S32)] : List (S32))) (inner := [.int .i64 1, .int .i64 9]) (ok := fun _ => True) (okp := fun _ => True) ?hr ?hp (fun _ hk => hk) trivial (Below.refl _ _) (Nat.le_refl _) (by simp) ?_; (case hd => rfl); (case hg => rfl); (case hr => first | (go_simp; done) | (go_simp; rfl)); (case hp => exact (Reps.c2 (show Kd.M k32 _ _ _ (⟨1, 9⟩ : S32) [.int .i64 1, .int .i64 9] from (k32_mkM _ _ _ (⟨1, 9⟩ : S32) )) (Reps.none _ _))); intro v421 w72 ho73 hb hg_ hnew_; clear hg_ hnew_; (first | rw [← Ny420.out] at ho73 | (simp only [Int.reduceToNat] at ho73; rw [← Ny420.out] at ho73)); have n0_ := Aside0.mk (Kd.R_elder' (by (with_reducible repeat (first | apply Kd.R_alloc | apply Kd.R_drewN | apply Kd.R_drew)); exact HO406.out) (Kd.R_base ho73) hb); have n1_ := Aside0.mk (Kd.R_elder' (by (with_reducible repeat (first | apply Kd.R_alloc | apply Kd.R_drewN | apply Kd.R_drew)); exact HO410.out) (Kd.R_base ho73) hb); have n2_ := Aside0.mk (Kd.R_elder' (by (with_reducible repeat (first | apply Kd.R_alloc | apply Kd.R_drewN | apply Kd.R_drew)); exact HO413.out) (Kd.R_base ho73) hb); have n3_ := Aside0.mk (Kd.R_below (by (with_reducible repeat (first | apply Kd.R_alloc | apply Kd.R_drewN | apply Kd.R_drew)); exact HO416.out) hb); have n4_ := Aside0.mk (Kd.R_lower (Kd.R_new' (Kd.R_new' (Kd.R_new' ho73 (Kd.R_lt (by (with_reducible repeat (first | apply Kd.R_alloc | apply Kd.R_drewN | apply Kd.R_drew)); exact HO406.out))) (Kd.R_lt (by (with_reducible repeat (first | apply Kd.R_alloc | apply Kd.R_drewN | apply Kd.R_drew)); exact HO410.out))) (Kd.R_lt (by (with_reducible repeat (first | apply Kd.R_alloc | apply Kd.R_drewN | apply Kd.R_drew)); exact HO413.out))) (below_size (by repeat (first | (with_reducible first | exact HB.out | apply below_alloc | apply pw_below_drewN | apply below_drew1) | exact HB.out)))); have n5_ := Aside0.mk (below_step (by repeat (first | (with_reducible first | exact HB.out | apply below_alloc | apply pw_below_drewN | apply below_drew1) | exact HB.out)) hb); clear HO406; clear HO410; clear HO413; clear HO416; clear HB; have HO406 := n0_; have HO410 := n1_; have HO413 := n2_; have HO416 := n3_; have HO422 := n4_; have HB := n5_; clear n0_ n1_ n2_ n3_ n4_ n5_; clear hb ho73; obtain ⟨Ao74, co74, eo74⟩ := Kd.R_slice HO422.out; subst eo74) | (go_at_call 20; (with_reducible refine (kimberlitelaw01_same.calls k _ _ t407 _ _ y420 true _ ?side1 ?side2 ?side3 ?side4 A5.out).mono ?_); (case side1 => repeat (first | exact (Kd.R_reads' HO410.out).2.2 | (with_reducible refine Kd.C_alloc ?_ _) | (with_reducible refine Kd.C_drewN ?_ _) | (with_reducible refine Kd.C_drew ?_))); (case side2 => exact (Kd.R_reads' HO410.out).2.1); (case side3 => repeat (first | exact (Kd.R_reads' HO422.out).2.2 | (with_reducible refine Kd.C_alloc ?_ _) | (with_reducible refine Kd.C_drewN ?_ _) | (with_reducible refine Kd.C_drew ?_))); (case side4 => exact (Kd.R_reads' HO422.out).2.1); rintro e w' ⟨rfl, ⟨nd, rfl⟩⟩))
       go_ret
       exact ⟨by first | rfl | (simp [errW_none, errW_some] <;> rfl) | (simp [*, errW_none, errW_some] <;> rfl), by repeat (first | (with_reducible first | exact HB.out | apply below_alloc | apply pw_below_drewN | apply below_drew1) | exact HB.out)⟩
   · replace c6 := Bool.eq_false_iff.mpr c6
     subst c6
     have H1 : (some false) = some r := by rw [if_neg (show ¬ (false = true) by decide)] at H; exact H
     clear H
     have H := H1
     clear H1
     obtain rfl := Option.some.inj H
     go_enter Try.func16, Try.ntmps16
     go_wp2_with (first | ((with_reducible refine gate_dst (N := 11) rfl ?_); (try (refine gate_guard (by rfl) ?_; dsimp only)); refine Kd.R_lit k32 _ 32 ?hg (N := 11) ?hd (xs := ([(⟨5, 9⟩ : S32), (⟨1, 3⟩ : S32), (⟨3, 5⟩ : S32)] : List (S32))) (inner := [.int .i64 5, .int .i64 9, .int .i64 1, .int .i64 3, .int .i64 3, .int .i64 5]) (ok := fun _ => True) (okp := fun _ => True) ?hr ?hp (fun _ hk => hk) trivial (Below.refl _ _) (Nat.le_refl _) (by simp) ?_; (case hd => rfl); (case hg => rfl); (case hr => first | (go_simp; done) | (go_simp; rfl)); (case hp => exact (Reps.c2 (show Kd.M k32 _ _ _ (⟨5, 9⟩ : S32) [.int .i64 5, .int .i64 9] from (k32_mkM _ _ _ (⟨5, 9⟩ : S32) )) (Reps.c2 (show Kd.M k32 _ _ _ (⟨1, 3⟩ : S32) [.int .i64 1, .int .i64 3] from (k32_mkM _ _ _ (⟨1, 3⟩ : S32) )) (Reps.c2 (show Kd.M k32 _ _ _ (⟨3, 5⟩ : S32) [.int .i64 3, .int .i64 5] from (k32_mkM _ _ _ (⟨3, 5⟩ : S32) )) (Reps.none _ _))))); intro v405 w75 ho76 hb hg_ hnew_; clear hg_ hnew_; (first | rw [← Ny404.out] at ho76 | (simp only [Int.reduceToNat] at ho76; rw [← Ny404.out] at ho76)); have n0_ := Aside0.mk (Kd.R_lower ho76 (below_size (by repeat (first | (with_reducible first | exact HB.out | apply below_alloc | apply pw_below_drewN | apply below_drew1) | exact HB.out)))); have n1_ := Aside0.mk (below_step (by repeat (first | (with_reducible first | exact HB.out | apply below_alloc | apply pw_below_drewN | apply below_drew1) | exact HB.out)) hb); clear HB; have HO406 := n0_; have HB := n1_; clear n0_ n1_; clear hb ho76; obtain ⟨Ao77, co77, eo77⟩ := Kd.R_slice HO406.out; subst eo77) | ((with_reducible refine gate_callee (f := 19) rfl ?_); refine goesL_ (some 12) rfl rfl Try.func19 (by kernel_rfl) rfl #[.slice Ao77 y404.length co77] rfl (by (try simp only [List.map_toArray, List.map_cons, List.map_nil]); first | done | rfl | (simp only [List.length_drop, List.length_take]; rfl)) ?_; (with_reducible refine (span_Of.calls k _ _ y404 t407 t408 _ ?side1 ?side2 A1.out).mono ?_); (case side1 => repeat (first | exact (Kd.R_reads' HO406.out).2.2 | (with_reducible refine Kd.C_alloc ?_ _) | (with_reducible refine Kd.C_drewN ?_ _) | (with_reducible refine Kd.C_drew ?_))); (case side2 => exact (Kd.R_reads' HO406.out).2.1); rintro e w78 ⟨v409, rfl, ho0, hb⟩; refine ⟨_, rfl, ?_⟩; have n0_ := Aside0.mk (Kd.R_elder' (by (with_reducible repeat (first | apply Kd.R_alloc | apply Kd.R_drewN | apply Kd.R_drew)); exact HO406.out) (Kd.R_base ho0) hb); have n1_ := Aside0.mk (Kd.R_lower (Kd.R_new' ho0 (Kd.R_lt (by (with_reducible repeat (first | apply Kd.R_alloc | apply Kd.R_drewN | apply Kd.R_drew)); exact HO406.out))) (below_size (by repeat (first | (with_reducible first | exact HB.out | apply below_alloc | apply pw_below_drewN | apply below_drew1) | exact HB.out)))); have n2_ := Aside0.mk (below_step (by repeat (first | (with_reducible first | exact HB.out | apply below_alloc | apply pw_below_drewN | apply below_drew1) | exact HB.out)) hb); clear HO406; clear HB; have HO406 := n0_; have HO410 := n1_; have HB := n2_; clear n0_ n1_ n2_; (try clear hb); (try clear hb2); (try clear hk); (try clear hi); (try clear ho0)) | ((with_reducible refine gate_dst (N := 21) rfl ?_); (try (refine gate_guard (by rfl) ?_; dsimp only)); refine Kd.R_lit k32 _ 32 ?hg (N := 21) ?hd (xs := ([(⟨0, 4⟩ : S32), (⟨0, 3⟩ : S32), (⟨3, 8⟩ : S32), (⟨6, 10⟩ : S32)] : List (S32))) (inner := [.int .i64 0, .int .i64 4, .int .i64 0, .int .i64 3, .int .i64 3, .int .i64 8, .int .i64 6, .int .i64 10]) (ok := fun _ => True) (okp := fun _ => True) ?hr ?hp (fun _ hk => hk) trivial (Below.refl _ _) (Nat.le_refl _) (by simp) ?_; (case hd => rfl); (case hg => rfl); (case hr => first | (go_simp; done) | (go_simp; rfl)); (case hp => exact (Reps.c2 (show Kd.M k32 _ _ _ (⟨0, 4⟩ : S32) [.int .i64 0, .int .i64 4] from (k32_mkM _ _ _ (⟨0, 4⟩ : S32) )) (Reps.c2 (show Kd.M k32 _ _ _ (⟨0, 3⟩ : S32) [.int .i64 0, .int .i64 3] from (k32_mkM _ _ _ (⟨0, 3⟩ : S32) )) (Reps.c2 (show Kd.M k32 _ _ _ (⟨3, 8⟩ : S32) [.int .i64 3, .int .i64 8] from (k32_mkM _ _ _ (⟨3, 8⟩ : S32) )) (Reps.c2 (show Kd.M k32 _ _ _ (⟨6, 10⟩ : S32) [.int .i64 6, .int .i64 10] from (k32_mkM _ _ _ (⟨6, 10⟩ : S32) )) (Reps.none _ _)))))); intro v412 w79 ho80 hb hg_ hnew_; clear hg_ hnew_; (first | rw [← Ny411.out] at ho80 | (simp only [Int.reduceToNat] at ho80; rw [← Ny411.out] at ho80)); have n0_ := Aside0.mk (Kd.R_elder' (by (with_reducible repeat (first | apply Kd.R_alloc | apply Kd.R_drewN | apply Kd.R_drew)); exact HO406.out) (Kd.R_base ho80) hb); have n1_ := Aside0.mk (Kd.R_elder' (by (with_reducible repeat (first | apply Kd.R_alloc | apply Kd.R_drewN | apply Kd.R_drew)); exact HO410.out) (Kd.R_base ho80) hb); have n2_ := Aside0.mk (Kd.R_lower (Kd.R_new' (Kd.R_new' ho80 (Kd.R_lt (by (with_reducible repeat (first | apply Kd.R_alloc | apply Kd.R_drewN | apply Kd.R_drew)); exact HO406.out))) (Kd.R_lt (by (with_reducible repeat (first | apply Kd.R_alloc | apply Kd.R_drewN | apply Kd.R_drew)); exact HO410.out))) (below_size (by repeat (first | (with_reducible first | exact HB.out | apply below_alloc | apply pw_below_drewN | apply below_drew1) | exact HB.out)))); have n3_ := Aside0.mk (below_step (by repeat (first | (with_reducible first | exact HB.out | apply below_alloc | apply pw_below_drewN | apply below_drew1) | exact HB.out)) hb); clear HO406; clear HO410; clear HB; have HO406 := n0_; have HO410 := n1_; have HO413 := n2_; have HB := n3_; clear n0_ n1_ n2_ n3_; clear hb ho80; obtain ⟨Ao81, co81, eo81⟩ := Kd.R_slice HO413.out; subst eo81) | ((with_reducible refine gate_callee (f := 25) rfl ?_); refine goesL_ (some 22) rfl rfl Try.func25 (by kernel_rfl) rfl #[.agg #[.int .i64 0, .int .i64 10], .slice Ao81 y411.length co81] rfl (by (try simp only [List.map_toArray, List.map_cons, List.map_nil]); first | done | rfl | (simp only [List.length_drop, List.length_take]; rfl)) ?_; (with_reducible refine (span_Cover.calls k 0 10 _ _ y411 t414 t417 _ ?side1 ?side2 A2.out).mono ?_); (case side1 => repeat (first | exact (Kd.R_reads' HO413.out).2.2 | (with_reducible refine Kd.C_alloc ?_ _) | (with_reducible refine Kd.C_drewN ?_ _) | (with_reducible refine Kd.C_drew ?_))); (case side2 => exact (Kd.R_reads' HO413.out).2.1); rintro e w82 ⟨v415, rfl, ho0, hb⟩; refine ⟨_, rfl, ?_⟩; have n0_ := Aside0.mk (Kd.R_below (by (with_reducible repeat (first | apply Kd.R_alloc | apply Kd.R_drewN | apply Kd.R_drew)); exact HO406.out) hb); have n1_ := Aside0.mk (Kd.R_below (by (with_reducible repeat (first | apply Kd.R_alloc | apply Kd.R_drewN | apply Kd.R_drew)); exact HO410.out) hb); have n2_ := Aside0.mk (Kd.R_below (by (with_reducible repeat (first | apply Kd.R_alloc | apply Kd.R_drewN | apply Kd.R_drew)); exact HO413.out) hb); have n3_ := Aside0.mk (Kd.R_lower ho0 (below_size (by repeat (first | (with_reducible first | exact HB.out | apply below_alloc | apply pw_below_drewN | apply below_drew1) | exact HB.out)))); have n4_ := Aside0.mk (below_step (by repeat (first | (with_reducible first | exact HB.out | apply below_alloc | apply pw_below_drewN | apply below_drew1) | exact HB.out)) hb); clear HO406; clear HO410; clear HO413; clear HB; have HO406 := n0_; have HO410 := n1_; have HO413 := n2_; have HO416 := n3_; have HB := n4_; clear n0_ n1_ n2_ n3_ n4_; (try clear hb); (try clear hb2); (try clear hk); (try clear hi); (try clear ho0); obtain ⟨Ao83, co83, eo83⟩ := Kd.R_slice HO410.out; subst eo83) | ((with_reducible refine gate_callee (f := 32) rfl ?_); refine goesL_ (some 27) rfl rfl Try.func32 (by kernel_rfl) rfl #[.slice Ao83 t407.length co83] rfl (by (try simp only [List.map_toArray, List.map_cons, List.map_nil]); first | done | rfl | (simp only [List.length_drop, List.length_take]; rfl)) ?_; (with_reducible refine (span_Size.calls k _ _ t407 t418 t419 _ ?side1 ?side2 A3.out).mono ?_); (case side1 => repeat (first | exact (Kd.R_reads' HO410.out).2.2 | (with_reducible refine Kd.C_alloc ?_ _) | (with_reducible refine Kd.C_drewN ?_ _) | (with_reducible refine Kd.C_drew ?_))); (case side2 => exact (Kd.R_reads' HO410.out).2.1); rintro e w84 ⟨rfl, hb⟩; refine ⟨_, rfl, ?_⟩; have n0_ := Aside0.mk (Kd.R_below (by (with_reducible repeat (first | apply Kd.R_alloc | apply Kd.R_drewN | apply Kd.R_drew)); exact HO406.out) hb); have n1_ := Aside0.mk (Kd.R_below (by (with_reducible repeat (first | apply Kd.R_alloc | apply Kd.R_drewN | apply Kd.R_drew)); exact HO410.out) hb); have n2_ := Aside0.mk (Kd.R_below (by (with_reducible repeat (first | apply Kd.R_alloc | apply Kd.R_drewN | apply Kd.R_drew)); exact HO413.out) hb); have n3_ := Aside0.mk (Kd.R_below (by (with_reducible repeat (first | apply Kd.R_alloc | apply Kd.R_drewN | apply Kd.R_drew)); exact HO416.out) hb); have n4_ := Aside0.mk (below_step (by repeat (first | (with_reducible first | exact HB.out | apply below_alloc | apply pw_below_drewN | apply below_drew1) | exact HB.out)) hb); clear HO406; clear HO410; clear HO413; clear HO416; clear HB; have HO406 := n0_; have HO410 := n1_; have HO413 := n2_; have HO416 := n3_; have HB := n4_; clear n0_ n1_ n2_ n3_ n4_; (try clear hb); (try clear hb2); (try clear hk); (try clear hi)) | ((with_reducible refine gate_dst (N := 35) rfl ?_); (try (refine gate_guard (by rfl) ?_; dsimp only)); refine Kd.R_lit k32 _ 32 ?hg (N := 35) ?hd (xs := ([(⟨1, 9⟩ : S32)] : List (S32))) (inner := [.int .i64 1, .int .i64 9]) (ok := fun _ => True) (okp := fun _ => True) ?hr ?hp (fun _ hk => hk) trivial (Below.refl _ _) (Nat.le_refl _) (by simp) ?_; (case hd => rfl); (case hg => rfl); (case hr => first | (go_simp; done) | (go_simp; rfl)); (case hp => exact (Reps.c2 (show Kd.M k32 _ _ _ (⟨1, 9⟩ : S32) [.int .i64 1, .int .i64 9] from (k32_mkM _ _ _ (⟨1, 9⟩ : S32) )) (Reps.none _ _))); intro v421 w85 ho86 hb hg_ hnew_; clear hg_ hnew_; (first | rw [← Ny420.out] at ho86 | (simp only [Int.reduceToNat] at ho86; rw [← Ny420.out] at ho86)); have n0_ := Aside0.mk (Kd.R_elder' (by (with_reducible repeat (first | apply Kd.R_alloc | apply Kd.R_drewN | apply Kd.R_drew)); exact HO406.out) (Kd.R_base ho86) hb); have n1_ := Aside0.mk (Kd.R_elder' (by (with_reducible repeat (first | apply Kd.R_alloc | apply Kd.R_drewN | apply Kd.R_drew)); exact HO410.out) (Kd.R_base ho86) hb); have n2_ := Aside0.mk (Kd.R_elder' (by (with_reducible repeat (first | apply Kd.R_alloc | apply Kd.R_drewN | apply Kd.R_drew)); exact HO413.out) (Kd.R_base ho86) hb); have n3_ := Aside0.mk (Kd.R_below (by (with_reducible repeat (first | apply Kd.R_alloc | apply Kd.R_drewN | apply Kd.R_drew)); exact HO416.out) hb); have n4_ := Aside0.mk (Kd.R_lower (Kd.R_new' (Kd.R_new' (Kd.R_new' ho86 (Kd.R_lt (by (with_reducible repeat (first | apply Kd.R_alloc | apply Kd.R_drewN | apply Kd.R_drew)); exact HO406.out))) (Kd.R_lt (by (with_reducible repeat (first | apply Kd.R_alloc | apply Kd.R_drewN | apply Kd.R_drew)); exact HO410.out))) (Kd.R_lt (by (with_reducible repeat (first | apply Kd.R_alloc | apply Kd.R_drewN | apply Kd.R_drew)); exact HO413.out))) (below_size (by repeat (first | (with_reducible first | exact HB.out | apply below_alloc | apply pw_below_drewN | apply below_drew1) | exact HB.out)))); have n5_ := Aside0.mk (below_step (by repeat (first | (with_reducible first | exact HB.out | apply below_alloc | apply pw_below_drewN | apply below_drew1) | exact HB.out)) hb); clear HO406; clear HO410; clear HO413; clear HO416; clear HB; have HO406 := n0_; have HO410 := n1_; have HO413 := n2_; have HO416 := n3_; have HO422 := n4_; have HB := n5_; clear n0_ n1_ n2_ n3_ n4_ n5_; clear hb ho86; obtain ⟨Ao87, co87, eo87⟩ := Kd.R_slice HO422.out; subst eo87) | (go_at_call 20; (with_reducible refine (kimberlitelaw01_same.calls k _ _ t407 _ _ y420 false _ ?side1 ?side2 ?side3 ?side4 A5.out).mono ?_); (case side1 => repeat (first | exact (Kd.R_reads' HO410.out).2.2 | (with_reducible refine Kd.C_alloc ?_ _) | (with_reducible refine Kd.C_drewN ?_ _) | (with_reducible refine Kd.C_drew ?_))); (case side2 => exact (Kd.R_reads' HO410.out).2.1); (case side3 => repeat (first | exact (Kd.R_reads' HO422.out).2.2 | (with_reducible refine Kd.C_alloc ?_ _) | (with_reducible refine Kd.C_drewN ?_ _) | (with_reducible refine Kd.C_drew ?_))); (case side4 => exact (Kd.R_reads' HO422.out).2.1); rintro e w' ⟨rfl, ⟨nd, rfl⟩⟩))
     go_ret
     exact ⟨by first | rfl | (simp [errW_none, errW_some] <;> rfl) | (simp [*, errW_none, errW_some] <;> rfl), by repeat (first | (with_reducible first | exact HB.out | apply below_alloc | apply pw_below_drewN | apply below_drew1) | exact HB.out)⟩
 · rw [if_neg c4] at H
   have c4b0 : (t408 == 0) = false := beq_eq_false_iff_ne.mpr c4
   have c4b1 : (t408 != 0) = true := bne_iff_ne.mpr c4
   obtain rfl := Option.some.inj H
   go_enter Try.func16, Try.ntmps16
   go_wp2_with (first | ((with_reducible refine gate_dst (N := 11) rfl ?_); (try (refine gate_guard (by rfl) ?_; dsimp only)); refine Kd.R_lit k32 _ 32 ?hg (N := 11) ?hd (xs := ([(⟨5, 9⟩ : S32), (⟨1, 3⟩ : S32), (⟨3, 5⟩ : S32)] : List (S32))) (inner := [.int .i64 5, .int .i64 9, .int .i64 1, .int .i64 3, .int .i64 3, .int .i64 5]) (ok := fun _ => True) (okp := fun _ => True) ?hr ?hp (fun _ hk => hk) trivial (Below.refl _ _) (Nat.le_refl _) (by simp) ?_; (case hd => rfl); (case hg => rfl); (case hr => first | (go_simp; done) | (go_simp; rfl)); (case hp => exact (Reps.c2 (show Kd.M k32 _ _ _ (⟨5, 9⟩ : S32) [.int .i64 5, .int .i64 9] from (k32_mkM _ _ _ (⟨5, 9⟩ : S32) )) (Reps.c2 (show Kd.M k32 _ _ _ (⟨1, 3⟩ : S32) [.int .i64 1, .int .i64 3] from (k32_mkM _ _ _ (⟨1, 3⟩ : S32) )) (Reps.c2 (show Kd.M k32 _ _ _ (⟨3, 5⟩ : S32) [.int .i64 3, .int .i64 5] from (k32_mkM _ _ _ (⟨3, 5⟩ : S32) )) (Reps.none _ _))))); intro v405 w88 ho89 hb hg_ hnew_; clear hg_ hnew_; (first | rw [← Ny404.out] at ho89 | (simp only [Int.reduceToNat] at ho89; rw [← Ny404.out] at ho89)); have n0_ := Aside0.mk (Kd.R_lower ho89 (below_size (by repeat (first | (with_reducible first | exact HB.out | apply below_alloc | apply pw_below_drewN | apply below_drew1) | exact HB.out)))); have n1_ := Aside0.mk (below_step (by repeat (first | (with_reducible first | exact HB.out | apply below_alloc | apply pw_below_drewN | apply below_drew1) | exact HB.out)) hb); clear HB; have HO406 := n0_; have HB := n1_; clear n0_ n1_; clear hb ho89; obtain ⟨Ao90, co90, eo90⟩ := Kd.R_slice HO406.out; subst eo90) | ((with_reducible refine gate_callee (f := 19) rfl ?_); refine goesL_ (some 12) rfl rfl Try.func19 (by kernel_rfl) rfl #[.slice Ao90 y404.length co90] rfl (by (try simp only [List.map_toArray, List.map_cons, List.map_nil]); first | done | rfl | (simp only [List.length_drop, List.length_take]; rfl)) ?_; (with_reducible refine (span_Of.calls k _ _ y404 t407 t408 _ ?side1 ?side2 A1.out).mono ?_); (case side1 => repeat (first | exact (Kd.R_reads' HO406.out).2.2 | (with_reducible refine Kd.C_alloc ?_ _) | (with_reducible refine Kd.C_drewN ?_ _) | (with_reducible refine Kd.C_drew ?_))); (case side2 => exact (Kd.R_reads' HO406.out).2.1); rintro e w91 ⟨v409, rfl, ho0, hb⟩; refine ⟨_, rfl, ?_⟩; have n0_ := Aside0.mk (Kd.R_elder' (by (with_reducible repeat (first | apply Kd.R_alloc | apply Kd.R_drewN | apply Kd.R_drew)); exact HO406.out) (Kd.R_base ho0) hb); have n1_ := Aside0.mk (Kd.R_lower (Kd.R_new' ho0 (Kd.R_lt (by (with_reducible repeat (first | apply Kd.R_alloc | apply Kd.R_drewN | apply Kd.R_drew)); exact HO406.out))) (below_size (by repeat (first | (with_reducible first | exact HB.out | apply below_alloc | apply pw_below_drewN | apply below_drew1) | exact HB.out)))); have n2_ := Aside0.mk (below_step (by repeat (first | (with_reducible first | exact HB.out | apply below_alloc | apply pw_below_drewN | apply below_drew1) | exact HB.out)) hb); clear HO406; clear HB; have HO406 := n0_; have HO410 := n1_; have HB := n2_; clear n0_ n1_ n2_; (try clear hb); (try clear hb2); (try clear hk); (try clear hi); (try clear ho0)) | ((with_reducible refine gate_dst (N := 21) rfl ?_); (try (refine gate_guard (by rfl) ?_; dsimp only)); refine Kd.R_lit k32 _ 32 ?hg (N := 21) ?hd (xs := ([(⟨0, 4⟩ : S32), (⟨0, 3⟩ : S32), (⟨3, 8⟩ : S32), (⟨6, 10⟩ : S32)] : List (S32))) (inner := [.int .i64 0, .int .i64 4, .int .i64 0, .int .i64 3, .int .i64 3, .int .i64 8, .int .i64 6, .int .i64 10]) (ok := fun _ => True) (okp := fun _ => True) ?hr ?hp (fun _ hk => hk) trivial (Below.refl _ _) (Nat.le_refl _) (by simp) ?_; (case hd => rfl); (case hg => rfl); (case hr => first | (go_simp; done) | (go_simp; rfl)); (case hp => exact (Reps.c2 (show Kd.M k32 _ _ _ (⟨0, 4⟩ : S32) [.int .i64 0, .int .i64 4] from (k32_mkM _ _ _ (⟨0, 4⟩ : S32) )) (Reps.c2 (show Kd.M k32 _ _ _ (⟨0, 3⟩ : S32) [.int .i64 0, .int .i64 3] from (k32_mkM _ _ _ (⟨0, 3⟩ : S32) )) (Reps.c2 (show Kd.M k32 _ _ _ (⟨3, 8⟩ : S32) [.int .i64 3, .int .i64 8] from (k32_mkM _ _ _ (⟨3, 8⟩ : S32) )) (Reps.c2 (show Kd.M k32 _ _ _ (⟨6, 10⟩ : S32) [.int .i64 6, .int .i64 10] from (k32_mkM _ _ _ (⟨6, 10⟩ : S32) )) (Reps.none _ _)))))); intro v412 w92 ho93 hb hg_ hnew_; clear hg_ hnew_; (first | rw [← Ny411.out] at ho93 | (simp only [Int.reduceToNat] at ho93; rw [← Ny411.out] at ho93)); have n0_ := Aside0.mk (Kd.R_elder' (by (with_reducible repeat (first | apply Kd.R_alloc | apply Kd.R_drewN | apply Kd.R_drew)); exact HO406.out) (Kd.R_base ho93) hb); have n1_ := Aside0.mk (Kd.R_elder' (by (with_reducible repeat (first | apply Kd.R_alloc | apply Kd.R_drewN | apply Kd.R_drew)); exact HO410.out) (Kd.R_base ho93) hb); have n2_ := Aside0.mk (Kd.R_lower (Kd.R_new' (Kd.R_new' ho93 (Kd.R_lt (by (with_reducible repeat (first | apply Kd.R_alloc | apply Kd.R_drewN | apply Kd.R_drew)); exact HO406.out))) (Kd.R_lt (by (with_reducible repeat (first | apply Kd.R_alloc | apply Kd.R_drewN | apply Kd.R_drew)); exact HO410.out))) (below_size (by repeat (first | (with_reducible first | exact HB.out | apply below_alloc | apply pw_below_drewN | apply below_drew1) | exact HB.out)))); have n3_ := Aside0.mk (below_step (by repeat (first | (with_reducible first | exact HB.out | apply below_alloc | apply pw_below_drewN | apply below_drew1) | exact HB.out)) hb); clear HO406; clear HO410; clear HB; have HO406 := n0_; have HO410 := n1_; have HO413 := n2_; have HB := n3_; clear n0_ n1_ n2_ n3_; clear hb ho93; obtain ⟨Ao94, co94, eo94⟩ := Kd.R_slice HO413.out; subst eo94) | ((with_reducible refine gate_callee (f := 25) rfl ?_); refine goesL_ (some 22) rfl rfl Try.func25 (by kernel_rfl) rfl #[.agg #[.int .i64 0, .int .i64 10], .slice Ao94 y411.length co94] rfl (by (try simp only [List.map_toArray, List.map_cons, List.map_nil]); first | done | rfl | (simp only [List.length_drop, List.length_take]; rfl)) ?_; (with_reducible refine (span_Cover.calls k 0 10 _ _ y411 t414 t417 _ ?side1 ?side2 A2.out).mono ?_); (case side1 => repeat (first | exact (Kd.R_reads' HO413.out).2.2 | (with_reducible refine Kd.C_alloc ?_ _) | (with_reducible refine Kd.C_drewN ?_ _) | (with_reducible refine Kd.C_drew ?_))); (case side2 => exact (Kd.R_reads' HO413.out).2.1); rintro e w95 ⟨v415, rfl, ho0, hb⟩; refine ⟨_, rfl, ?_⟩; have n0_ := Aside0.mk (Kd.R_below (by (with_reducible repeat (first | apply Kd.R_alloc | apply Kd.R_drewN | apply Kd.R_drew)); exact HO406.out) hb); have n1_ := Aside0.mk (Kd.R_below (by (with_reducible repeat (first | apply Kd.R_alloc | apply Kd.R_drewN | apply Kd.R_drew)); exact HO410.out) hb); have n2_ := Aside0.mk (Kd.R_below (by (with_reducible repeat (first | apply Kd.R_alloc | apply Kd.R_drewN | apply Kd.R_drew)); exact HO413.out) hb); have n3_ := Aside0.mk (Kd.R_lower ho0 (below_size (by repeat (first | (with_reducible first | exact HB.out | apply below_alloc | apply pw_below_drewN | apply below_drew1) | exact HB.out)))); have n4_ := Aside0.mk (below_step (by repeat (first | (with_reducible first | exact HB.out | apply below_alloc | apply pw_below_drewN | apply below_drew1) | exact HB.out)) hb); clear HO406; clear HO410; clear HO413; clear HB; have HO406 := n0_; have HO410 := n1_; have HO413 := n2_; have HO416 := n3_; have HB := n4_; clear n0_ n1_ n2_ n3_ n4_; (try clear hb); (try clear hb2); (try clear hk); (try clear hi); (try clear ho0); obtain ⟨Ao96, co96, eo96⟩ := Kd.R_slice HO410.out; subst eo96) | ((with_reducible refine gate_callee (f := 32) rfl ?_); refine goesL_ (some 27) rfl rfl Try.func32 (by kernel_rfl) rfl #[.slice Ao96 t407.length co96] rfl (by (try simp only [List.map_toArray, List.map_cons, List.map_nil]); first | done | rfl | (simp only [List.length_drop, List.length_take]; rfl)) ?_; (with_reducible refine (span_Size.calls k _ _ t407 t418 t419 _ ?side1 ?side2 A3.out).mono ?_); (case side1 => repeat (first | exact (Kd.R_reads' HO410.out).2.2 | (with_reducible refine Kd.C_alloc ?_ _) | (with_reducible refine Kd.C_drewN ?_ _) | (with_reducible refine Kd.C_drew ?_))); (case side2 => exact (Kd.R_reads' HO410.out).2.1); rintro e w97 ⟨rfl, hb⟩; refine ⟨_, rfl, ?_⟩; have n0_ := Aside0.mk (Kd.R_below (by (with_reducible repeat (first | apply Kd.R_alloc | apply Kd.R_drewN | apply Kd.R_drew)); exact HO406.out) hb); have n1_ := Aside0.mk (Kd.R_below (by (with_reducible repeat (first | apply Kd.R_alloc | apply Kd.R_drewN | apply Kd.R_drew)); exact HO410.out) hb); have n2_ := Aside0.mk (Kd.R_below (by (with_reducible repeat (first | apply Kd.R_alloc | apply Kd.R_drewN | apply Kd.R_drew)); exact HO413.out) hb); have n3_ := Aside0.mk (Kd.R_below (by (with_reducible repeat (first | apply Kd.R_alloc | apply Kd.R_drewN | apply Kd.R_drew)); exact HO416.out) hb); have n4_ := Aside0.mk (below_step (by repeat (first | (with_reducible first | exact HB.out | apply below_alloc | apply pw_below_drewN | apply below_drew1) | exact HB.out)) hb); clear HO406; clear HO410; clear HO413; clear HO416; clear HB; have HO406 := n0_; have HO410 := n1_; have HO413 := n2_; have HO416 := n3_; have HB := n4_; clear n0_ n1_ n2_ n3_ n4_; (try clear hb); (try clear hb2); (try clear hk); (try clear hi)))
   go_ret
   exact ⟨by first | rfl | (simp [errW_none, errW_some] <;> rfl) | (simp [*, errW_none, errW_some] <;> rfl), by repeat (first | (with_reducible first | exact HB.out | apply below_alloc | apply pw_below_drewN | apply below_drew1) | exact HB.out)⟩
end Go.Proofs.Ytningpmoojnomaa.Pr
end
section
namespace Go.Proofs.Ytningpmoojnomaa.Pr
open Go.RowKit Go.Proofs.YtningpmoojnomaaW.PrintWords Go.Proofs.YtningpmoojnomaaW.PrintLast Go.Proofs.YtningpmoojnomaaW.PrintMore
theorem alive_now : kimberlitelaw01_alive.f 40 = some true := by kernel_rfl
end Go.Proofs.Ytningpmoojnomaa.Pr
end
section
namespace Go.Proofs.Ytningpmoojnomaa.Pr
open Go.RowKit Go.Proofs.YtningpmoojnomaaW.PrintWords Go.Proofs.YtningpmoojnomaaW.PrintLast Go.Proofs.YtningpmoojnomaaW.PrintMore
set_option linter.unusedVariables false
set_option linter.unusedSimpArgs false
theorem alive_at (w : World) : Calls Try.prog 16 #[] w fun e w' => e = .returned (.bool true) ∧ Below w.heap.size w w' :=
  kimberlitelaw01_alive.calls 40 true w alive_now
/-- Two equal lists are the same. -/
theorem same_at (A0 : Option Addr) (c0 : Nat) (A1 : Option Addr) (c1 : Nat) (l : List S32) (w : World) (hr0 : Kd.C k32 w A0 l.length l) (hc0 : l.length ≤ c0) (hr1 : Kd.C k32 w A1 l.length l) (hc1 : l.length ≤ c1) :
    Calls Try.prog 20 #[.slice A0 l.length c0, .slice A1 l.length c1] w fun e w' => e = .returned (.bool true) ∧ Drawn0 w w' := by
  obtain ⟨k, hk⟩ := same_self l hr0.2.1
  exact kimberlitelaw01_same.calls k A0 c0 l A1 c1 l true w hr0 hc0 hr1 hc1 hk
end Go.Proofs.Ytningpmoojnomaa.Pr
end
section
namespace Go.Proofs.Ytningpmoojnomaa.Pr
open Go.RowKit Go.ChangeShapes Go.WideShapes Go.Deep Go.Joins Go.Proofs.YtningpmoojnomaaW.PrintWords Go.Proofs.YtningpmoojnomaaW.PrintLast Go.Proofs.YtningpmoojnomaaW.PrintMore
set_option linter.unusedVariables false
set_option linter.unusedSimpArgs false
section
variable {H : Type} {enc : TypeId × Value → H} {W : World}
/-- Both numbers of a span are int64s. -/
def okS (x : S32) : Prop := (Lit.int .i64 x.f0).wf = true ∧ (Lit.int .i64 x.f1).wf = true
set_option maxRecDepth 100000 in
theorem open_spans {a : Option Addr} {len cap : Nat} {d : DataW H} {p : List MemPlace} (h : DataW.Trod enc Try.prog W 0 (fun _ => true) true 22 (.slice a len cap) d p) :
    ∃ l : List S32, l.length = len ∧ l.length ≤ cap ∧ Kd.C k32 W a l.length l ∧ ∀ x ∈ l, okS x := by
  obtain ⟨fuel, hf⟩ := h
  rcases open_slice Try.underlying22 hf with ⟨hcs, _⟩ | ⟨ad, len', cap', m, n, D, Pl, hcs, _, hl, hm, hmm, _, hi⟩
  · simp [Value.cells] at hcs
    obtain ⟨rfl, rfl, rfl⟩ := hcs
    exact ⟨[], rfl, by simp, ⟨rfl, by simp, fun h => absurd h (by simp)⟩, fun x hx => absurd hx (by simp)⟩
  · simp [Value.cells] at hcs
    obtain ⟨rfl, rfl, rfl⟩ := hcs
    have hC : Try.prog.cellsOf 32 = 2 := by kernel_rfl
    have key : ∀ i, i < len → ∃ x : S32, okS x ∧ W.cell? (ad.add (i * 2)) = some (.int .i64 x.f0) ∧ W.cell? (ad.add (i * 2 + 1)) = some (.int .i64 x.f1) := by
      intro i hil
      obtain ⟨cs', hc, ht'⟩ := hi i (by rw [hmm]; simp; omega)
      rw [hC] at hc
      obtain ⟨ys, n', hn', hy, hlen, hyl, hfd⟩ := DataW.trod_struct Try.underlying32 ht'
      obtain ⟨_, hcl, hat⟩ := World.cells?_some hc
      match cs', hcl with
      | [c0, c1], _ =>
        have k3 : Try.prog.cellsOf 3 = 1 := by kernel_rfl
        obtain ⟨y0, hy0⟩ : ∃ y, ys[0]? = some y := ⟨_, List.getElem?_eq_getElem (by rw [hyl]; decide)⟩
        obtain ⟨y1, hy1⟩ : ∃ y, ys[1]? = some y := ⟨_, List.getElem?_eq_getElem (by rw [hyl]; decide)⟩
        have g0 := hfd 0 _ rfl
        have g1 := hfd 1 _ rfl
        dsimp only [List.getElem_toArray, List.getElem_cons_zero, List.getElem_cons_succ] at g0 g1
        rw [k3, hy0] at g0
        rw [k3, hy1] at g1
        simp only [List.drop_zero, List.drop_succ_cons, List.take_succ_cons, List.take_zero] at g0 g1
        obtain ⟨a0, e0, _, w0⟩ := DataW.trod_int Try.underlying3 g0
        obtain ⟨a1, e1, _, w1⟩ := DataW.trod_int Try.underlying3 g1
        simp at e0 e1
        subst e0 e1
        have h0 := hat 0 (by omega)
        have h1 := hat 1 (by omega)
        rw [Deep.add_add] at h0 h1
        exact ⟨⟨a0, a1⟩, ⟨w0, w1⟩, by simpa using h0, by simpa using h1⟩
    obtain ⟨f, hf⟩ := @choose_lt S32 ⟨z32⟩ _ _ key
    refine ⟨(List.range len).map f, by simp, by simpa using hl, ⟨by simp, by simp; simp only [maxLen] at hm; omega, fun _ => ⟨ad, rfl, fun j x hj => ?_⟩⟩, ?_⟩
    · obtain ⟨hjl, hx⟩ := List.getElem?_eq_some_iff.1 hj
      have hjl' : j < len := by simpa using hjl
      simp at hx
      subst hx
      obtain ⟨_, h0, h1⟩ := hf j hjl'
      refine ⟨_, rfl, k32_mk W (f j), fun i u hu => ?_⟩
      match i, hu with
      | 0, hu => simp at hu; subst hu; exact h0
      | 1, hu => simp at hu; subst hu; exact h1
      | i + 2, hu => simp at hu
    · intro x hx
      obtain ⟨j, hj, rfl⟩ := List.mem_map.1 hx
      exact (hf j (by simpa using hj)).1
end
end Go.Proofs.Ytningpmoojnomaa.Pr
end
section
namespace Go.Proofs.Ytningpmoojnomaa.Pr
open Go.RowKit Go.Proofs.YtningpmoojnomaaW.PrintWords Go.Proofs.YtningpmoojnomaaW.PrintLast Go.Proofs.YtningpmoojnomaaW.PrintMore
set_option linter.unusedVariables false
set_option linter.unusedSimpArgs false
set_option maxHeartbeats 64000000 in
set_option maxRecDepth 100000 in
theorem SpanBoolean_walk {W : World} (a0 : Option Addr) (cap0 : Nat) (l0 : List S32) (c0 : l0.length ≤ cap0) (hr0 : Kd.C k32 W a0 l0.length l0) (w0 : ∀ s ∈ l0, okS s) (a1 : Option Addr) (cap1 : Nat) (l1 : List S32) (c1 : l1.length ≤ cap1) (hr1 : Kd.C k32 W a1 l1.length l1) (w1 : ∀ s ∈ l1, okS s) (a2 : Option Addr) (cap2 : Nat) (l2 : List S32) (c2 : l2.length ≤ cap2) (hr2 : Kd.C k32 W a2 l2.length l2) (w2 : ∀ s ∈ l2, okS s) :
    Calls Try.prog 12 #[.slice a0 l0.length cap0, .slice a1 l1.length cap1, .slice a2 l2.length cap2] W fun e w' => e = .returned (.bool true) ∧ Below W.heap.size W w' := by
  obtain ⟨k0, k1, k2, a, b, c, hs0, hs1, hs2, B⟩ := bool_facts l0 l1 l2 hr0.2.1 hr1.2.1 hr2.2.1
  obtain ⟨ab, bc, ac, lf, on, cc, na, nb, ou, less, meet, x, y, f1, f2, f3, f4, f5, f6, f7, f8, f9, f10, f11, f12, f13, f14, f15, f16, f17, f18, f19, f20, f21⟩ := B
  have S0 := Aside0.mk hs0
  have S1 := Aside0.mk hs1
  have S2 := Aside0.mk hs2
  have F1 := Aside0.mk f1
  have F2 := Aside0.mk f2
  have F3 := Aside0.mk f3
  have F4 := Aside0.mk f4
  have F5 := Aside0.mk f5
  have F6 := Aside0.mk f6
  have F7 := Aside0.mk f7
  have F8 := Aside0.mk f8
  have F9 := Aside0.mk f9
  have F10 := Aside0.mk f10
  have F11 := Aside0.mk f11
  have F12 := Aside0.mk f12
  have F13 := Aside0.mk f13
  have F14 := Aside0.mk f14
  have F15 := Aside0.mk f15
  have F16 := Aside0.mk f16
  have F17 := Aside0.mk f17
  have F18 := Aside0.mk f18
  have F19 := Aside0.mk f19
  have F20 := Aside0.mk f20
  have F21 := Aside0.mk f21
  have HC_l0 := Aside0.mk hr0
  have HC_l1 := Aside0.mk hr1
  have HC_l2 := Aside0.mk hr2
  have HP_l0 := Aside0.mk c0
  have HP_l1 := Aside0.mk c1
  have HP_l2 := Aside0.mk c2
  have HB := Aside0.mk (Below.refl W.heap.size W)
  clear hr0 hr1 hr2 c0 c1 c2 w0 w1 w2 hs0 hs1 hs2 f1 f2 f3 f4 f5 f6 f7 f8 f9 f10 f11 f12 f13 f14 f15 f16 f17 f18 f19 f20 f21
  go_enter Try.func12, Try.ntmps12
  go_wp2_with (go_at_call 56; with_reducible refine (kimberlitelaw01_sets.calls k0 _ _ l0 a _ HC_l0.out HP_l0.out S0.out).mono ?_; rintro e w1 ⟨v1, rfl, hr1, hb1⟩; obtain ⟨A1, c1, e1⟩ := Kd.R_slice hr1; subst e1)
  replace HC_l0 := Aside0.mk (Kd.C_below HC_l0.out hb1)
  replace HC_l1 := Aside0.mk (Kd.C_below HC_l1.out hb1)
  replace HC_l2 := Aside0.mk (Kd.C_below HC_l2.out hb1)
  replace HB := Aside0.mk (below_then HB.out HB.out.size hb1)
  clear hb1
  have HC_a := Aside0.mk (Kd.R_reads' hr1).2.2
  have HP_a := Aside0.mk (Kd.R_reads' hr1).2.1
  clear hr1
  go_wp2_with (go_at_call 56; with_reducible refine (kimberlitelaw01_sets.calls k1 _ _ l1 b _ HC_l1.out HP_l1.out S1.out).mono ?_; rintro e w2 ⟨v2, rfl, hr2, hb2⟩; obtain ⟨A2, c2, e2⟩ := Kd.R_slice hr2; subst e2)
  replace HC_l0 := Aside0.mk (Kd.C_below HC_l0.out hb2)
  replace HC_l1 := Aside0.mk (Kd.C_below HC_l1.out hb2)
  replace HC_l2 := Aside0.mk (Kd.C_below HC_l2.out hb2)
  replace HC_a := Aside0.mk (Kd.C_below HC_a.out hb2)
  replace HB := Aside0.mk (below_then HB.out HB.out.size hb2)
  clear hb2
  have HC_b := Aside0.mk (Kd.R_reads' hr2).2.2
  have HP_b := Aside0.mk (Kd.R_reads' hr2).2.1
  clear hr2
  go_wp2_with (go_at_call 56; with_reducible refine (kimberlitelaw01_sets.calls k2 _ _ l2 c _ HC_l2.out HP_l2.out S2.out).mono ?_; rintro e w3 ⟨v3, rfl, hr3, hb3⟩; obtain ⟨A3, c3, e3⟩ := Kd.R_slice hr3; subst e3)
  replace HC_l0 := Aside0.mk (Kd.C_below HC_l0.out hb3)
  replace HC_l1 := Aside0.mk (Kd.C_below HC_l1.out hb3)
  replace HC_l2 := Aside0.mk (Kd.C_below HC_l2.out hb3)
  replace HC_a := Aside0.mk (Kd.C_below HC_a.out hb3)
  replace HC_b := Aside0.mk (Kd.C_below HC_b.out hb3)
  replace HB := Aside0.mk (below_then HB.out HB.out.size hb3)
  clear hb3
  have HC_c := Aside0.mk (Kd.R_reads' hr3).2.2
  have HP_c := Aside0.mk (Kd.R_reads' hr3).2.1
  clear hr3
  clear HC_l0 HP_l0
  clear HC_l1 HP_l1
  clear HC_l2 HP_l2
  go_wp2_with (go_at_call 57; with_reducible refine (kimberlitelaw01_or.calls _ _ a _ _ b ab true _ HC_a.out HP_a.out HC_b.out HP_b.out F1.out).mono ?_; rintro e w4 ⟨v4, rfl, hr4, hb4⟩; obtain ⟨A4, c4, e4⟩ := Kd.R_slice hr4; subst e4)
  replace HC_a := Aside0.mk (Kd.C_below HC_a.out hb4)
  replace HC_b := Aside0.mk (Kd.C_below HC_b.out hb4)
  replace HC_c := Aside0.mk (Kd.C_below HC_c.out hb4)
  replace HB := Aside0.mk (below_then HB.out HB.out.size hb4)
  clear hb4
  have HC_ab := Aside0.mk (Kd.R_reads' hr4).2.2
  have HP_ab := Aside0.mk (Kd.R_reads' hr4).2.1
  clear hr4
  go_wp2_with (go_at_call 57; with_reducible refine (kimberlitelaw01_or.calls _ _ b _ _ a ab true _ HC_b.out HP_b.out HC_a.out HP_a.out F2.out).mono ?_; rintro e w5 ⟨v5, rfl, hr5, hb5⟩; obtain ⟨A5, c5, e5⟩ := Kd.R_slice hr5; subst e5)
  replace HC_a := Aside0.mk (Kd.C_below HC_a.out hb5)
  replace HC_b := Aside0.mk (Kd.C_below HC_b.out hb5)
  replace HC_c := Aside0.mk (Kd.C_below HC_c.out hb5)
  replace HC_ab := Aside0.mk (Kd.C_below HC_ab.out hb5)
  replace HB := Aside0.mk (below_then HB.out HB.out.size hb5)
  clear hb5
  have HC_ba := Aside0.mk (Kd.R_reads' hr5).2.2
  have HP_ba := Aside0.mk (Kd.R_reads' hr5).2.1
  clear hr5
  go_wp2_with (go_at_call 20; with_reducible refine (same_at _ _ _ _ ab _ HC_ab.out HP_ab.out HC_ba.out HP_ba.out).mono ?_; rintro e w6 ⟨rfl, hb6⟩)
  replace hb6 := hb6.below
  replace HC_a := Aside0.mk (Kd.C_below HC_a.out hb6)
  replace HC_b := Aside0.mk (Kd.C_below HC_b.out hb6)
  replace HC_c := Aside0.mk (Kd.C_below HC_c.out hb6)
  replace HC_ab := Aside0.mk (Kd.C_below HC_ab.out hb6)
  replace HC_ba := Aside0.mk (Kd.C_below HC_ba.out hb6)
  replace HB := Aside0.mk (below_then HB.out HB.out.size hb6)
  clear hb6
  clear HC_ba HP_ba
  go_wp2_with (go_at_call 58; with_reducible refine (kimberlitelaw01_and.calls _ _ b _ _ c bc true _ HC_b.out HP_b.out HC_c.out HP_c.out F3.out).mono ?_; rintro e w7 ⟨v7, rfl, hr7, hb7⟩; obtain ⟨A7, c7, e7⟩ := Kd.R_slice hr7; subst e7)
  replace HC_a := Aside0.mk (Kd.C_below HC_a.out hb7)
  replace HC_b := Aside0.mk (Kd.C_below HC_b.out hb7)
  replace HC_c := Aside0.mk (Kd.C_below HC_c.out hb7)
  replace HC_ab := Aside0.mk (Kd.C_below HC_ab.out hb7)
  replace HB := Aside0.mk (below_then HB.out HB.out.size hb7)
  clear hb7
  have HC_bc := Aside0.mk (Kd.R_reads' hr7).2.2
  have HP_bc := Aside0.mk (Kd.R_reads' hr7).2.1
  clear hr7
  go_wp2_with (go_at_call 58; with_reducible refine (kimberlitelaw01_and.calls _ _ c _ _ b bc true _ HC_c.out HP_c.out HC_b.out HP_b.out F4.out).mono ?_; rintro e w8 ⟨v8, rfl, hr8, hb8⟩; obtain ⟨A8, c8, e8⟩ := Kd.R_slice hr8; subst e8)
  replace HC_a := Aside0.mk (Kd.C_below HC_a.out hb8)
  replace HC_b := Aside0.mk (Kd.C_below HC_b.out hb8)
  replace HC_c := Aside0.mk (Kd.C_below HC_c.out hb8)
  replace HC_ab := Aside0.mk (Kd.C_below HC_ab.out hb8)
  replace HC_bc := Aside0.mk (Kd.C_below HC_bc.out hb8)
  replace HB := Aside0.mk (below_then HB.out HB.out.size hb8)
  clear hb8
  have HC_cb := Aside0.mk (Kd.R_reads' hr8).2.2
  have HP_cb := Aside0.mk (Kd.R_reads' hr8).2.1
  clear hr8
  go_wp2_with (go_at_call 20; with_reducible refine (same_at _ _ _ _ bc _ HC_bc.out HP_bc.out HC_cb.out HP_cb.out).mono ?_; rintro e w9 ⟨rfl, hb9⟩)
  replace hb9 := hb9.below
  replace HC_a := Aside0.mk (Kd.C_below HC_a.out hb9)
  replace HC_b := Aside0.mk (Kd.C_below HC_b.out hb9)
  replace HC_c := Aside0.mk (Kd.C_below HC_c.out hb9)
  replace HC_ab := Aside0.mk (Kd.C_below HC_ab.out hb9)
  replace HC_bc := Aside0.mk (Kd.C_below HC_bc.out hb9)
  replace HC_cb := Aside0.mk (Kd.C_below HC_cb.out hb9)
  replace HB := Aside0.mk (below_then HB.out HB.out.size hb9)
  clear hb9
  clear HC_cb HP_cb
  go_wp2_with (go_at_call 57; with_reducible refine (kimberlitelaw01_or.calls _ _ a _ _ c ac true _ HC_a.out HP_a.out HC_c.out HP_c.out F5.out).mono ?_; rintro e w10 ⟨v10, rfl, hr10, hb10⟩; obtain ⟨A10, c10, e10⟩ := Kd.R_slice hr10; subst e10)
  replace HC_a := Aside0.mk (Kd.C_below HC_a.out hb10)
  replace HC_b := Aside0.mk (Kd.C_below HC_b.out hb10)
  replace HC_c := Aside0.mk (Kd.C_below HC_c.out hb10)
  replace HC_ab := Aside0.mk (Kd.C_below HC_ab.out hb10)
  replace HC_bc := Aside0.mk (Kd.C_below HC_bc.out hb10)
  replace HB := Aside0.mk (below_then HB.out HB.out.size hb10)
  clear hb10
  have HC_ac := Aside0.mk (Kd.R_reads' hr10).2.2
  have HP_ac := Aside0.mk (Kd.R_reads' hr10).2.1
  clear hr10
  go_wp2_with (go_at_call 57; with_reducible refine (kimberlitelaw01_or.calls _ _ a _ _ bc lf x _ HC_a.out HP_a.out HC_bc.out HP_bc.out F6.out).mono ?_; rintro e w11 ⟨v11, rfl, hr11, hb11⟩; obtain ⟨A11, c11, e11⟩ := Kd.R_slice hr11; subst e11)
  replace HC_a := Aside0.mk (Kd.C_below HC_a.out hb11)
  replace HC_b := Aside0.mk (Kd.C_below HC_b.out hb11)
  replace HC_c := Aside0.mk (Kd.C_below HC_c.out hb11)
  replace HC_ab := Aside0.mk (Kd.C_below HC_ab.out hb11)
  replace HC_bc := Aside0.mk (Kd.C_below HC_bc.out hb11)
  replace HC_ac := Aside0.mk (Kd.C_below HC_ac.out hb11)
  replace HB := Aside0.mk (below_then HB.out HB.out.size hb11)
  clear hb11
  have HC_lf := Aside0.mk (Kd.R_reads' hr11).2.2
  have HP_lf := Aside0.mk (Kd.R_reads' hr11).2.1
  clear hr11
  go_upto_region 13 with (go_at_call 58; with_reducible refine (kimberlitelaw01_and.calls _ _ ab _ _ ac lf x _ HC_ab.out HP_ab.out HC_ac.out HP_ac.out F7.out).mono ?_; rintro e w12 ⟨v12, rfl, hr12, hb12⟩; obtain ⟨A12, c12, e12⟩ := Kd.R_slice hr12; subst e12)
  replace HC_a := Aside0.mk (Kd.C_below HC_a.out hb12)
  replace HC_b := Aside0.mk (Kd.C_below HC_b.out hb12)
  replace HC_c := Aside0.mk (Kd.C_below HC_c.out hb12)
  replace HC_ab := Aside0.mk (Kd.C_below HC_ab.out hb12)
  replace HC_bc := Aside0.mk (Kd.C_below HC_bc.out hb12)
  replace HC_ac := Aside0.mk (Kd.C_below HC_ac.out hb12)
  replace HC_lf := Aside0.mk (Kd.C_below HC_lf.out hb12)
  replace HB := Aside0.mk (below_then HB.out HB.out.size hb12)
  clear hb12
  have HC_rt := Aside0.mk (Kd.R_reads' hr12).2.2
  have HP_rt := Aside0.mk (Kd.R_reads' hr12).2.1
  clear hr12
  clear HC_bc HP_bc
  clear HC_ac HP_ac
  (try simp only [Act.put, List.setIfInBounds_toArray, List.set_cons_zero, List.set_cons_succ])
  go_cut [126] (fun v126 wc => v126 = .bool false ∧ Aside0 (Kd.C k32 wc A1 (a).length (a)) ∧ Aside0 (Kd.C k32 wc A2 (b).length (b)) ∧ Aside0 (Kd.C k32 wc A3 (c).length (c)) ∧ Aside0 (Kd.C k32 wc A4 (ab).length (ab)) ∧ Aside0 (Below W.heap.size W wc))
  case first =>
    cases x with
    | true =>
      go_wp2_with (go_at_call 20; with_reducible refine (same_at _ _ _ _ lf _ HC_lf.out HP_lf.out HC_rt.out HP_rt.out).mono ?_; rintro e w13 ⟨rfl, hb13⟩)
      replace hb13 := hb13.below
      replace HC_a := Aside0.mk (Kd.C_below HC_a.out hb13)
      replace HC_b := Aside0.mk (Kd.C_below HC_b.out hb13)
      replace HC_c := Aside0.mk (Kd.C_below HC_c.out hb13)
      replace HC_ab := Aside0.mk (Kd.C_below HC_ab.out hb13)
      replace HC_lf := Aside0.mk (Kd.C_below HC_lf.out hb13)
      replace HC_rt := Aside0.mk (Kd.C_below HC_rt.out hb13)
      replace HB := Aside0.mk (below_then HB.out HB.out.size hb13)
      clear hb13
      go_wp2
      go_meet
      case rel => exact ⟨rfl, HC_a, HC_b, HC_c, HC_ab, HB⟩
    | false =>
      go_wp2
      go_meet
      case rel => exact ⟨rfl, HC_a, HC_b, HC_c, HC_ab, HB⟩
  case rest =>
    clear HB HC_a HC_b HC_c HC_ab HC_lf HC_rt
    clear HP_lf
    clear HP_rt
    obtain ⟨rfl, HC_a, HC_b, HC_c, HC_ab, HB⟩ := hcut
    go_wp2_with (go_at_call 57; with_reducible refine (kimberlitelaw01_or.calls _ _ ab _ _ c on y _ HC_ab.out HP_ab.out HC_c.out HP_c.out F8.out).mono ?_; rintro e w14 ⟨v14, rfl, hr14, hb14⟩; obtain ⟨A14, c14, e14⟩ := Kd.R_slice hr14; subst e14)
    replace HC_a := Aside0.mk (Kd.C_below HC_a.out hb14)
    replace HC_b := Aside0.mk (Kd.C_below HC_b.out hb14)
    replace HC_c := Aside0.mk (Kd.C_below HC_c.out hb14)
    replace HC_ab := Aside0.mk (Kd.C_below HC_ab.out hb14)
    replace HB := Aside0.mk (below_then HB.out HB.out.size hb14)
    clear hb14
    have HC_on := Aside0.mk (Kd.R_reads' hr14).2.2
    have HP_on := Aside0.mk (Kd.R_reads' hr14).2.1
    clear hr14
    go_wp2_with (go_at_call 57; with_reducible refine (kimberlitelaw01_or.calls _ _ b _ _ c cc true _ HC_b.out HP_b.out HC_c.out HP_c.out F9.out).mono ?_; rintro e w15 ⟨v15, rfl, hr15, hb15⟩; obtain ⟨A15, c15, e15⟩ := Kd.R_slice hr15; subst e15)
    replace HC_a := Aside0.mk (Kd.C_below HC_a.out hb15)
    replace HC_b := Aside0.mk (Kd.C_below HC_b.out hb15)
    replace HC_c := Aside0.mk (Kd.C_below HC_c.out hb15)
    replace HC_ab := Aside0.mk (Kd.C_below HC_ab.out hb15)
    replace HC_on := Aside0.mk (Kd.C_below HC_on.out hb15)
    replace HB := Aside0.mk (below_then HB.out HB.out.size hb15)
    clear hb15
    have HC_cc := Aside0.mk (Kd.R_reads' hr15).2.2
    have HP_cc := Aside0.mk (Kd.R_reads' hr15).2.1
    clear hr15
    go_upto_region 18 with (go_at_call 57; with_reducible refine (kimberlitelaw01_or.calls _ _ a _ _ cc on y _ HC_a.out HP_a.out HC_cc.out HP_cc.out F10.out).mono ?_; rintro e w16 ⟨v16, rfl, hr16, hb16⟩; obtain ⟨A16, c16, e16⟩ := Kd.R_slice hr16; subst e16)
    replace HC_a := Aside0.mk (Kd.C_below HC_a.out hb16)
    replace HC_b := Aside0.mk (Kd.C_below HC_b.out hb16)
    replace HC_c := Aside0.mk (Kd.C_below HC_c.out hb16)
    replace HC_ab := Aside0.mk (Kd.C_below HC_ab.out hb16)
    replace HC_on := Aside0.mk (Kd.C_below HC_on.out hb16)
    replace HC_cc := Aside0.mk (Kd.C_below HC_cc.out hb16)
    replace HB := Aside0.mk (below_then HB.out HB.out.size hb16)
    clear hb16
    have HC_tw := Aside0.mk (Kd.R_reads' hr16).2.2
    have HP_tw := Aside0.mk (Kd.R_reads' hr16).2.1
    clear hr16
    clear HC_cc HP_cc
    clear HC_c HP_c
    (try simp only [Act.put, List.setIfInBounds_toArray, List.set_cons_zero, List.set_cons_succ])
    go_cut [157] (fun v157 wc => v157 = .bool false ∧ Aside0 (Kd.C k32 wc A1 (a).length (a)) ∧ Aside0 (Kd.C k32 wc A2 (b).length (b)) ∧ Aside0 (Kd.C k32 wc A4 (ab).length (ab)) ∧ Aside0 (Below W.heap.size W wc))
    case first =>
      cases y with
      | true =>
        go_wp2_with (go_at_call 20; with_reducible refine (same_at _ _ _ _ on _ HC_on.out HP_on.out HC_tw.out HP_tw.out).mono ?_; rintro e w17 ⟨rfl, hb17⟩)
        replace hb17 := hb17.below
        replace HC_a := Aside0.mk (Kd.C_below HC_a.out hb17)
        replace HC_b := Aside0.mk (Kd.C_below HC_b.out hb17)
        replace HC_ab := Aside0.mk (Kd.C_below HC_ab.out hb17)
        replace HC_on := Aside0.mk (Kd.C_below HC_on.out hb17)
        replace HC_tw := Aside0.mk (Kd.C_below HC_tw.out hb17)
        replace HB := Aside0.mk (below_then HB.out HB.out.size hb17)
        clear hb17
        go_wp2
        go_meet
        case rel => exact ⟨rfl, HC_a, HC_b, HC_ab, HB⟩
      | false =>
        go_wp2
        go_meet
        case rel => exact ⟨rfl, HC_a, HC_b, HC_ab, HB⟩
    case rest =>
      clear HB HC_a HC_b HC_ab HC_on HC_tw
      clear HP_on
      clear HP_tw
      obtain ⟨rfl, HC_a, HC_b, HC_ab, HB⟩ := hcut
      go_wp2_with (go_at_call 59; with_reducible refine (kimberlitelaw01_not.calls _ _ a na true _ HC_a.out HP_a.out F11.out).mono ?_; rintro e w18 ⟨v18, rfl, hr18, hb18⟩; obtain ⟨A18, c18, e18⟩ := Kd.R_slice hr18; subst e18)
      replace HC_a := Aside0.mk (Kd.C_below HC_a.out hb18)
      replace HC_b := Aside0.mk (Kd.C_below HC_b.out hb18)
      replace HC_ab := Aside0.mk (Kd.C_below HC_ab.out hb18)
      replace HB := Aside0.mk (below_then HB.out HB.out.size hb18)
      clear hb18
      have HC_na := Aside0.mk (Kd.R_reads' hr18).2.2
      have HP_na := Aside0.mk (Kd.R_reads' hr18).2.1
      clear hr18
      go_wp2_with (go_at_call 59; with_reducible refine (kimberlitelaw01_not.calls _ _ b nb true _ HC_b.out HP_b.out F12.out).mono ?_; rintro e w19 ⟨v19, rfl, hr19, hb19⟩; obtain ⟨A19, c19, e19⟩ := Kd.R_slice hr19; subst e19)
      replace HC_a := Aside0.mk (Kd.C_below HC_a.out hb19)
      replace HC_b := Aside0.mk (Kd.C_below HC_b.out hb19)
      replace HC_ab := Aside0.mk (Kd.C_below HC_ab.out hb19)
      replace HC_na := Aside0.mk (Kd.C_below HC_na.out hb19)
      replace HB := Aside0.mk (below_then HB.out HB.out.size hb19)
      clear hb19
      have HC_nb := Aside0.mk (Kd.R_reads' hr19).2.2
      have HP_nb := Aside0.mk (Kd.R_reads' hr19).2.1
      clear hr19
      go_wp2_with (go_at_call 59; with_reducible refine (kimberlitelaw01_not.calls _ _ na a true _ HC_na.out HP_na.out F13.out).mono ?_; rintro e w20 ⟨v20, rfl, hr20, hb20⟩; obtain ⟨A20, c20, e20⟩ := Kd.R_slice hr20; subst e20)
      replace HC_a := Aside0.mk (Kd.C_below HC_a.out hb20)
      replace HC_b := Aside0.mk (Kd.C_below HC_b.out hb20)
      replace HC_ab := Aside0.mk (Kd.C_below HC_ab.out hb20)
      replace HC_na := Aside0.mk (Kd.C_below HC_na.out hb20)
      replace HC_nb := Aside0.mk (Kd.C_below HC_nb.out hb20)
      replace HB := Aside0.mk (below_then HB.out HB.out.size hb20)
      clear hb20
      have HC_back := Aside0.mk (Kd.R_reads' hr20).2.2
      have HP_back := Aside0.mk (Kd.R_reads' hr20).2.1
      clear hr20
      go_wp2_with (go_at_call 59; with_reducible refine (kimberlitelaw01_not.calls _ _ ab ou true _ HC_ab.out HP_ab.out F14.out).mono ?_; rintro e w21 ⟨v21, rfl, hr21, hb21⟩; obtain ⟨A21, c21, e21⟩ := Kd.R_slice hr21; subst e21)
      replace HC_a := Aside0.mk (Kd.C_below HC_a.out hb21)
      replace HC_b := Aside0.mk (Kd.C_below HC_b.out hb21)
      replace HC_ab := Aside0.mk (Kd.C_below HC_ab.out hb21)
      replace HC_na := Aside0.mk (Kd.C_below HC_na.out hb21)
      replace HC_nb := Aside0.mk (Kd.C_below HC_nb.out hb21)
      replace HC_back := Aside0.mk (Kd.C_below HC_back.out hb21)
      replace HB := Aside0.mk (below_then HB.out HB.out.size hb21)
      clear hb21
      have HC_ou := Aside0.mk (Kd.R_reads' hr21).2.2
      have HP_ou := Aside0.mk (Kd.R_reads' hr21).2.1
      clear hr21
      go_wp2_with (go_at_call 58; with_reducible refine (kimberlitelaw01_and.calls _ _ na _ _ nb ou true _ HC_na.out HP_na.out HC_nb.out HP_nb.out F15.out).mono ?_; rintro e w22 ⟨v22, rfl, hr22, hb22⟩; obtain ⟨A22, c22, e22⟩ := Kd.R_slice hr22; subst e22)
      replace HC_a := Aside0.mk (Kd.C_below HC_a.out hb22)
      replace HC_b := Aside0.mk (Kd.C_below HC_b.out hb22)
      replace HC_ab := Aside0.mk (Kd.C_below HC_ab.out hb22)
      replace HC_na := Aside0.mk (Kd.C_below HC_na.out hb22)
      replace HC_nb := Aside0.mk (Kd.C_below HC_nb.out hb22)
      replace HC_back := Aside0.mk (Kd.C_below HC_back.out hb22)
      replace HC_ou := Aside0.mk (Kd.C_below HC_ou.out hb22)
      replace HB := Aside0.mk (below_then HB.out HB.out.size hb22)
      clear hb22
      have HC_both := Aside0.mk (Kd.R_reads' hr22).2.2
      have HP_both := Aside0.mk (Kd.R_reads' hr22).2.1
      clear hr22
      go_wp2_with (go_at_call 58; with_reducible refine (kimberlitelaw01_and.calls _ _ a _ _ na [] true _ HC_a.out HP_a.out HC_na.out HP_na.out F16.out).mono ?_; rintro e w23 ⟨v23, rfl, hr23, hb23⟩; obtain ⟨A23, c23, e23⟩ := Kd.R_slice hr23; subst e23)
      replace HC_a := Aside0.mk (Kd.C_below HC_a.out hb23)
      replace HC_b := Aside0.mk (Kd.C_below HC_b.out hb23)
      replace HC_ab := Aside0.mk (Kd.C_below HC_ab.out hb23)
      replace HC_na := Aside0.mk (Kd.C_below HC_na.out hb23)
      replace HC_nb := Aside0.mk (Kd.C_below HC_nb.out hb23)
      replace HC_back := Aside0.mk (Kd.C_below HC_back.out hb23)
      replace HC_ou := Aside0.mk (Kd.C_below HC_ou.out hb23)
      replace HC_both := Aside0.mk (Kd.C_below HC_both.out hb23)
      replace HB := Aside0.mk (below_then HB.out HB.out.size hb23)
      clear hb23
      have HC_nn := Aside0.mk (Kd.R_reads' hr23).2.2
      have HP_nn := Aside0.mk (Kd.R_reads' hr23).2.1
      clear hr23
      go_wp2_with (go_at_call 57; with_reducible refine (kimberlitelaw01_or.calls _ _ a _ _ na [wholeS] true _ HC_a.out HP_a.out HC_na.out HP_na.out F17.out).mono ?_; rintro e w24 ⟨v24, rfl, hr24, hb24⟩; obtain ⟨A24, c24, e24⟩ := Kd.R_slice hr24; subst e24)
      replace HC_a := Aside0.mk (Kd.C_below HC_a.out hb24)
      replace HC_b := Aside0.mk (Kd.C_below HC_b.out hb24)
      replace HC_ab := Aside0.mk (Kd.C_below HC_ab.out hb24)
      replace HC_na := Aside0.mk (Kd.C_below HC_na.out hb24)
      replace HC_nb := Aside0.mk (Kd.C_below HC_nb.out hb24)
      replace HC_back := Aside0.mk (Kd.C_below HC_back.out hb24)
      replace HC_ou := Aside0.mk (Kd.C_below HC_ou.out hb24)
      replace HC_both := Aside0.mk (Kd.C_below HC_both.out hb24)
      replace HC_nn := Aside0.mk (Kd.C_below HC_nn.out hb24)
      replace HB := Aside0.mk (below_then HB.out HB.out.size hb24)
      clear hb24
      have HC_al := Aside0.mk (Kd.R_reads' hr24).2.2
      have HP_al := Aside0.mk (Kd.R_reads' hr24).2.1
      clear hr24
      clear HC_ab HP_ab
      clear HC_na HP_na
      clear HC_nb HP_nb
      go_wp2_with (go_at_call 20; with_reducible refine (same_at _ _ _ _ a _ HC_back.out HP_back.out HC_a.out HP_a.out).mono ?_; rintro e w25 ⟨rfl, hb25⟩)
      replace hb25 := hb25.below
      replace HC_a := Aside0.mk (Kd.C_below HC_a.out hb25)
      replace HC_b := Aside0.mk (Kd.C_below HC_b.out hb25)
      replace HC_back := Aside0.mk (Kd.C_below HC_back.out hb25)
      replace HC_ou := Aside0.mk (Kd.C_below HC_ou.out hb25)
      replace HC_both := Aside0.mk (Kd.C_below HC_both.out hb25)
      replace HC_nn := Aside0.mk (Kd.C_below HC_nn.out hb25)
      replace HC_al := Aside0.mk (Kd.C_below HC_al.out hb25)
      replace HB := Aside0.mk (below_then HB.out HB.out.size hb25)
      clear hb25
      clear HC_back HP_back
      go_wp2_with (go_at_call 20; with_reducible refine (same_at _ _ _ _ ou _ HC_ou.out HP_ou.out HC_both.out HP_both.out).mono ?_; rintro e w26 ⟨rfl, hb26⟩)
      replace hb26 := hb26.below
      replace HC_a := Aside0.mk (Kd.C_below HC_a.out hb26)
      replace HC_b := Aside0.mk (Kd.C_below HC_b.out hb26)
      replace HC_ou := Aside0.mk (Kd.C_below HC_ou.out hb26)
      replace HC_both := Aside0.mk (Kd.C_below HC_both.out hb26)
      replace HC_nn := Aside0.mk (Kd.C_below HC_nn.out hb26)
      replace HC_al := Aside0.mk (Kd.C_below HC_al.out hb26)
      replace HB := Aside0.mk (below_then HB.out HB.out.size hb26)
      clear hb26
      clear HC_ou HP_ou
      clear HC_both HP_both
      go_wp2_with (go_at_call 20; refine (same_at _ _ _ _ [wholeS] _ (Kd.C_below HC_al.out (below_alloc (Below.refl _ _) _)) HP_al.out (whole_C _) (by decide)).mono ?_; rintro e w27 ⟨rfl, hb27⟩)
      replace hb27 := below_then (below_alloc (Below.refl w26.heap.size w26) _) (below_alloc (Below.refl w26.heap.size w26) _).size hb27.below
      clear HC_nn HP_nn
      clear HC_al HP_al
      replace HC_a := Aside0.mk (Kd.C_below HC_a.out hb27)
      replace HC_b := Aside0.mk (Kd.C_below HC_b.out hb27)
      replace HB := Aside0.mk (below_then HB.out HB.out.size hb27)
      clear hb27
      go_wp2_with (go_at_call 57; with_reducible refine (kimberlitelaw01_or.calls _ _ a _ _ a a true _ HC_a.out HP_a.out HC_a.out HP_a.out F18.out).mono ?_; rintro e w28 ⟨v28, rfl, hr28, hb28⟩; obtain ⟨A28, c28, e28⟩ := Kd.R_slice hr28; subst e28)
      replace HC_a := Aside0.mk (Kd.C_below HC_a.out hb28)
      replace HC_b := Aside0.mk (Kd.C_below HC_b.out hb28)
      replace HB := Aside0.mk (below_then HB.out HB.out.size hb28)
      clear hb28
      have HC_self := Aside0.mk (Kd.R_reads' hr28).2.2
      have HP_self := Aside0.mk (Kd.R_reads' hr28).2.1
      clear hr28
      go_wp2_with (go_at_call 53; with_reducible refine (span_Subtract.calls _ _ a _ _ b less 0 _ HC_a.out HP_a.out HC_b.out HP_b.out F19.out).mono ?_; rintro e w29 ⟨v29, rfl, hr29, hb29⟩; obtain ⟨A29, c29, e29⟩ := Kd.R_slice hr29; subst e29)
      replace HC_a := Aside0.mk (Kd.C_below HC_a.out hb29)
      replace HC_b := Aside0.mk (Kd.C_below HC_b.out hb29)
      replace HC_self := Aside0.mk (Kd.C_below HC_self.out hb29)
      replace HB := Aside0.mk (below_then HB.out HB.out.size hb29)
      clear hb29
      have HC_less := Aside0.mk (Kd.R_reads' hr29).2.2
      have HP_less := Aside0.mk (Kd.R_reads' hr29).2.1
      clear hr29
      go_wp2_with (go_at_call 58; with_reducible refine (kimberlitelaw01_and.calls _ _ a _ _ b meet true _ HC_a.out HP_a.out HC_b.out HP_b.out F20.out).mono ?_; rintro e w30 ⟨v30, rfl, hr30, hb30⟩; obtain ⟨A30, c30, e30⟩ := Kd.R_slice hr30; subst e30)
      replace HC_a := Aside0.mk (Kd.C_below HC_a.out hb30)
      replace HC_b := Aside0.mk (Kd.C_below HC_b.out hb30)
      replace HC_self := Aside0.mk (Kd.C_below HC_self.out hb30)
      replace HC_less := Aside0.mk (Kd.C_below HC_less.out hb30)
      replace HB := Aside0.mk (below_then HB.out HB.out.size hb30)
      clear hb30
      have HC_meet := Aside0.mk (Kd.R_reads' hr30).2.2
      have HP_meet := Aside0.mk (Kd.R_reads' hr30).2.1
      clear hr30
      go_wp2_with (go_at_call 57; with_reducible refine (kimberlitelaw01_or.calls _ _ less _ _ meet a true _ HC_less.out HP_less.out HC_meet.out HP_meet.out F21.out).mono ?_; rintro e w31 ⟨v31, rfl, hr31, hb31⟩; obtain ⟨A31, c31, e31⟩ := Kd.R_slice hr31; subst e31)
      replace HC_a := Aside0.mk (Kd.C_below HC_a.out hb31)
      replace HC_b := Aside0.mk (Kd.C_below HC_b.out hb31)
      replace HC_self := Aside0.mk (Kd.C_below HC_self.out hb31)
      replace HC_less := Aside0.mk (Kd.C_below HC_less.out hb31)
      replace HC_meet := Aside0.mk (Kd.C_below HC_meet.out hb31)
      replace HB := Aside0.mk (below_then HB.out HB.out.size hb31)
      clear hb31
      have HC_wh := Aside0.mk (Kd.R_reads' hr31).2.2
      have HP_wh := Aside0.mk (Kd.R_reads' hr31).2.1
      clear hr31
      clear HC_less HP_less
      clear HC_meet HP_meet
      clear HC_b HP_b
      go_wp2_with (go_at_call 20; with_reducible refine (same_at _ _ _ _ a _ HC_self.out HP_self.out HC_a.out HP_a.out).mono ?_; rintro e w32 ⟨rfl, hb32⟩)
      replace hb32 := hb32.below
      replace HC_a := Aside0.mk (Kd.C_below HC_a.out hb32)
      replace HC_self := Aside0.mk (Kd.C_below HC_self.out hb32)
      replace HC_wh := Aside0.mk (Kd.C_below HC_wh.out hb32)
      replace HB := Aside0.mk (below_then HB.out HB.out.size hb32)
      clear hb32
      clear HC_self HP_self
      go_wp2_with (go_at_call 20; with_reducible refine (same_at _ _ _ _ a _ HC_wh.out HP_wh.out HC_a.out HP_a.out).mono ?_; rintro e w33 ⟨rfl, hb33⟩)
      replace hb33 := hb33.below
      replace HC_a := Aside0.mk (Kd.C_below HC_a.out hb33)
      replace HC_wh := Aside0.mk (Kd.C_below HC_wh.out hb33)
      replace HB := Aside0.mk (below_then HB.out HB.out.size hb33)
      clear hb33
      clear HC_wh HP_wh
      go_wp2_with (go_at_call 16; with_reducible refine (alive_at _).mono ?_; rintro e w34 ⟨rfl, hb34⟩)
      go_ret
      exact ⟨rfl, below_then HB.out HB.out.size hb34⟩
end Go.Proofs.Ytningpmoojnomaa.Pr
end
section
namespace Go.Proofs.Ytningpmoojnomaa.spanBoolean
open Go.ChangeShapes Go.WideShapes Go.ChangeAt Go.RowKit Go.Proofs.Ytningpmoojnomaa.Pr
set_option linter.unusedVariables false
theorem own : ownKnob Try.prog.godebug = none := by kernel_rfl
theorem laidOut : laidOutB Try.prog = true := by kernel_rfl
set_option maxRecDepth 100000 in
theorem lifted (os : Os) (started : os.Started) (H : Type) (enc : TypeId × Value → H) :
    ReturnsInHanded {} Try.checked os 12 .any (Rows.spanBooleanSpec.pre6 enc Try.prog Try.f12 Rows.spanBooleanRow.domain false) (Rows.spanBooleanSpec.post enc Try.prog Try.f12 false true false false) := by
  refine returnsInHanded_of_change (C := Try.checked) own started (by kernel_rfl) Try.func12
    (ChangeSpec.witness6 (enc := enc) (C := Try.checked) false ⟨#[], #[.slice none 0 0, .slice none 0 0, .slice none 0 0], []⟩ 8 (by kernel_rfl) (by kernel_rfl) (by kernel_rfl) (by kernel_rfl)) ?_
  intro W base args ds gs before hval0 hW hcnd _
  have hval : ∀ (j : Nat) t v, Try.f12.params[j]? = some t → args[j]? = some v → Value.okWide Try.prog W .any base t v := hval0
  have hW' := hW
  obtain ⟨p, q, hA0, hV, rfl, hfz, hnd⟩ := hW
  have hA : DataW.TrodAll enc Try.prog W 0 (fun _ => true) true Try.f12.params.toList args.toList ds p := hA0
  rw [Try.params12] at hA hval
  obtain ⟨v0, vs0, d0, ds0, p0, q0, hargs, rfl, rfl, h0, r0⟩ := trodAll_cons hA
  obtain ⟨v1, vs1, d1, ds1, p1, q1, rfl, rfl, rfl, h1, r1⟩ := trodAll_cons r0
  obtain ⟨v2, vs2, d2, ds2, p2, q2, rfl, rfl, rfl, h2, r2⟩ := trodAll_cons r1
  obtain ⟨rfl, rfl, rfl⟩ := trodAll_nil r2
  obtain rfl : args = #[v0, v1, v2] := by cases args; simp_all
  obtain ⟨rfl, rfl⟩ := trodVars_none hV
  have k0 := h0
  have lt0 : ∀ x ∈ p0, x.block < W.heap.size := by obtain ⟨m, hm⟩ := k0; exact DataW.trod_lt m _ _ _ hm
  obtain ⟨a0, len0, cap0, rfl⟩ := okWide_slice Try.underlying22 (hval 0 22 v0 rfl rfl)
  obtain ⟨l0, rfl, c0, hr0, w0⟩ := open_spans h0
  have k1 := h1
  have lt1 : ∀ x ∈ p1, x.block < W.heap.size := by obtain ⟨m, hm⟩ := k1; exact DataW.trod_lt m _ _ _ hm
  obtain ⟨a1, len1, cap1, rfl⟩ := okWide_slice Try.underlying22 (hval 1 22 v1 rfl rfl)
  obtain ⟨l1, rfl, c1, hr1, w1⟩ := open_spans h1
  have k2 := h2
  have lt2 : ∀ x ∈ p2, x.block < W.heap.size := by obtain ⟨m, hm⟩ := k2; exact DataW.trod_lt m _ _ _ hm
  obtain ⟨a2, len2, cap2, rfl⟩ := okWide_slice Try.underlying22 (hval 2 22 v2 rfl rfl)
  obtain ⟨l2, rfl, c2, hr2, w2⟩ := open_spans h2
  clear hA0 hval0
  try simp only [List.append_nil] at hW'
  refine (SpanBoolean_walk a0 cap0 l0 c0 hr0 w0 a1 cap1 l1 c1 hr1 w1 a2 cap2 l2 c2 hr2 w2).mono fun e W' ⟨he, bel⟩ => ?_
  subst he
  exact ⟨_, rfl, _, _, _, [], _, [], hW', trodAll_mk1 (shut_bool Try.underlying4 _), (trodAll_cons_mk (Below.trod laidOut (by kernel_rfl) (of_decide_eq_true (by kernel_rfl)) k0 bel lt0) (trodAll_cons_mk (Below.trod laidOut (by kernel_rfl) (of_decide_eq_true (by kernel_rfl)) k1 bel lt1) (trodAll_cons_mk (Below.trod laidOut (by kernel_rfl) (of_decide_eq_true (by kernel_rfl)) k2 bel lt2) trodAll_mk0))), rfl, bel.frame _, fun h => by cases h⟩
theorem over : Rows.spanBooleanRow.holds Try.pinned (OpenSpec.ofChange Rows.spanBooleanSpec) :=
  OpenClaim.holds_of_wide 12 Try.f12 rfl rfl rfl rfl rfl rfl rfl ⟨rfl, rfl, rfl, rfl, rfl⟩ rfl rfl rfl rfl rfl (by kernel_rfl) Try.func12 (by kernel_rfl)
    (of_decide_eq_true (by kernel_rfl)) (by unfold Func.isWrapper; first | (rw [if_pos (by decide +kernel)]; kernel_rfl) | (rw [if_neg (by decide +kernel)]; exact ⟨rfl, rfl⟩))
    (fun os started H enc _ => lifted os started H enc)
theorem proved : Rows.SpanBooleanSaid := over
end Go.Proofs.Ytningpmoojnomaa.spanBoolean
namespace Go.Proofs.Ytningpmoojnomaa
/-- The row, under a short name, for the claim. -/
theorem spanBoolean_holds : Rows.SpanBooleanSaid := spanBoolean.proved
end Go.Proofs.Ytningpmoojnomaa
end
