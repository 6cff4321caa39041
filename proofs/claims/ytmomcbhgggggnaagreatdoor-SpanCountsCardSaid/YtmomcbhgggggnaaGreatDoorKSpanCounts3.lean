/- What the proof of the law needs, trimmed and merged by wip/pack.py out of the texts YtmomcbhgggggnaaGreatDoorPrx21, YtmomcbhgggggnaaGreatDoorPrx22, YtmomcbhgggggnaaGreatDoorMth, YtmomcbhgggggnaaGreatDoorWds, YtmomcbhgggggnaaGreatDoorBel, YtmomcbhgggggnaaGreatDoorDig, YtmomcbhgggggnaaGreatDoorExtIto. No condition. -/
import Derived.Lib.SlicesCompact
import Derived.Lib.Split
import Derived.Lib.Join
import Derived.Lib.ItoaMem
import Derived.Lib.AtoiAll
import Derived.Lib.Strings
import Derived.Lib.AppendIntMem
import Derived.Test.YtmomcbhgggggnaaGreatDoorKSpanCounts0
import Derived.Test.YtmomcbhgggggnaaGreatDoorKSpanCounts1
import Derived.Test.YtmomcbhgggggnaaGreatDoorKSpanCounts2
section
namespace Go.Proofs.YtmomcbhgggggnaaGreatDoor.Pr
open Go.RowKit Go.Proofs.YtmomcbhgggggnaaGreatDoorW.PrintWords Go.Proofs.YtmomcbhgggggnaaGreatDoorW.PrintLast Go.Proofs.YtmomcbhgggggnaaGreatDoorW.PrintMore
attribute [local go_sem] max2_int min2_int max_two min_two max_three min_three max_four min_four   -- for this text's walks alone
set_option linter.unusedVariables false
set_option linter.unusedSimpArgs false
mutual
def kimberlitelaw01_sets.l0 : Nat → List (S41) → List (S41) → Int → Option ((List (S41)))
 | 0, _, _, _ => none
 | k + 1, x0, x3, x4 => if x4 < (x0.length : Int) then (kimberlitelaw01_sets.j1 k x0 x3 x4 (decide ((x3.length : Int) < 60))) else (kimberlitelaw01_sets.j1 k x0 x3 x4 false)
def kimberlitelaw01_sets.j1 : Nat → List (S41) → List (S41) → Int → Bool → Option ((List (S41)))
 | 0, _, _, _, _ => none
 | k + 1, x0, x3, x4, x15 => if x15 = true then (if 0 ≤ x4 then (if x4 < (x0.length : Int) then (if ((rd_T41 x0 x4).f0) ≥ (-1099511627776) then (if ((rd_T41 x0 x4).f0) < ((rd_T41 x0 x4).f1) then (kimberlitelaw01_sets.j2 k x0 x3 x4 (decide (((rd_T41 x0 x4).f1) ≤ 1099511627776))) else (kimberlitelaw01_sets.j2 k x0 x3 x4 false)) else (kimberlitelaw01_sets.j2 k x0 x3 x4 false)) else (none)) else (none)) else ((span_Of.f k x3).bind fun bt111 => (some bt111.1))
def kimberlitelaw01_sets.j2 : Nat → List (S41) → List (S41) → Int → Bool → Option ((List (S41)))
 | 0, _, _, _, _ => none
 | k + 1, x0, x3, x4, x44 => if x44 = true then (if 0 ≤ x4 then (if x4 < (x0.length : Int) then (if x3.length < 8796093022208 then (kimberlitelaw01_sets.l0 k x0 (x3 ++ [(⟨(rd_T41 x0 x4).f0, (rd_T41 x0 x4).f1⟩ : S41)]) (wrap64 (x4 + 1))) else (none)) else (none)) else (none)) else (kimberlitelaw01_sets.l0 k x0 x3 (wrap64 (x4 + 1)))
end
def kimberlitelaw01_sets.f (k : Nat) (l0 : List (S41)) : Option ((List (S41))) := kimberlitelaw01_sets.l0 k l0 ([] : List (S41)) 0
theorem kimberlitelaw01_sets.mono_l : ∀ k, (∀ y0 y1 y2, LeO (kimberlitelaw01_sets.l0 k y0 y1 y2) (kimberlitelaw01_sets.l0 (k + 1) y0 y1 y2)) ∧ (∀ y0 y1 y2 y3, LeO (kimberlitelaw01_sets.j1 k y0 y1 y2 y3) (kimberlitelaw01_sets.j1 (k + 1) y0 y1 y2 y3)) ∧ (∀ y0 y1 y2 y3, LeO (kimberlitelaw01_sets.j2 k y0 y1 y2 y3) (kimberlitelaw01_sets.j2 (k + 1) y0 y1 y2 y3))
 | 0 => ⟨fun _ _ _ r h => by simp [kimberlitelaw01_sets.l0] at h, fun _ _ _ _ r h => by simp [kimberlitelaw01_sets.j1] at h, fun _ _ _ _ r h => by simp [kimberlitelaw01_sets.j2] at h⟩
 | k + 1 => by
  obtain ⟨ih0, ih1, ih2⟩ := kimberlitelaw01_sets.mono_l k
  refine ⟨?_, ?_, ?_⟩
  · intro y0 y1 y2
    unfold kimberlitelaw01_sets.l0
    repeat' first
    | (with_reducible exact ih0 _ _ _)
    | (with_reducible exact ih1 _ _ _ _)
    | (with_reducible exact ih2 _ _ _ _)
    | (with_reducible exact span_Of.mono _ _)
    | (with_reducible exact LeO.refl _)
    | (with_reducible exact LeO.none _)
    | (with_reducible refine LeO.ite ?_ ?_)
    | (with_reducible refine LeO.bind ?_ (fun _ => ?_))
    | exact ih0 _ _ _
    | exact ih1 _ _ _ _
    | exact ih2 _ _ _ _
    | exact span_Of.mono _ _
    | exact LeO.none _
    | refine LeO.ite ?_ ?_
    | refine LeO.bind ?_ (fun _ => ?_)
  · intro y0 y1 y2 y3
    unfold kimberlitelaw01_sets.j1
    repeat' first
    | (with_reducible exact ih0 _ _ _)
    | (with_reducible exact ih1 _ _ _ _)
    | (with_reducible exact ih2 _ _ _ _)
    | (with_reducible exact span_Of.mono _ _)
    | (with_reducible exact LeO.refl _)
    | (with_reducible exact LeO.none _)
    | (with_reducible refine LeO.ite ?_ ?_)
    | (with_reducible refine LeO.bind ?_ (fun _ => ?_))
    | exact ih0 _ _ _
    | exact ih1 _ _ _ _
    | exact ih2 _ _ _ _
    | exact span_Of.mono _ _
    | exact LeO.none _
    | refine LeO.ite ?_ ?_
    | refine LeO.bind ?_ (fun _ => ?_)
  · intro y0 y1 y2 y3
    unfold kimberlitelaw01_sets.j2
    repeat' first
    | (with_reducible exact ih0 _ _ _)
    | (with_reducible exact ih1 _ _ _ _)
    | (with_reducible exact ih2 _ _ _ _)
    | (with_reducible exact span_Of.mono _ _)
    | (with_reducible exact LeO.refl _)
    | (with_reducible exact LeO.none _)
    | (with_reducible refine LeO.ite ?_ ?_)
    | (with_reducible refine LeO.bind ?_ (fun _ => ?_))
    | exact ih0 _ _ _
    | exact ih1 _ _ _ _
    | exact ih2 _ _ _ _
    | exact span_Of.mono _ _
    | exact LeO.none _
    | refine LeO.ite ?_ ?_
    | refine LeO.bind ?_ (fun _ => ?_)
theorem kimberlitelaw01_sets.mono : ∀ a0 k, LeO (kimberlitelaw01_sets.f k a0) (kimberlitelaw01_sets.f (k + 1) a0) := by
 intro a0 k
 obtain ⟨ih0, ih1, ih2⟩ := kimberlitelaw01_sets.mono_l k
 unfold kimberlitelaw01_sets.f
 repeat' first
  | (with_reducible exact ih0 _ _ _)
  | (with_reducible exact ih1 _ _ _ _)
  | (with_reducible exact ih2 _ _ _ _)
  | (with_reducible exact span_Of.mono _ _)
  | (with_reducible exact LeO.refl _)
  | (with_reducible exact LeO.none _)
  | (with_reducible refine LeO.ite ?_ ?_)
  | (with_reducible refine LeO.bind ?_ (fun _ => ?_))
  | exact ih0 _ _ _
  | exact ih1 _ _ _ _
  | exact ih2 _ _ _ _
  | exact span_Of.mono _ _
  | exact LeO.none _
  | refine LeO.ite ?_ ?_
  | refine LeO.bind ?_ (fun _ => ?_)
set_option maxHeartbeats 8000000 in
set_option maxRecDepth 100000 in
theorem kimberlitelaw01_sets.calls (k : Nat) (A0 : Option Addr) (c0 : Nat) (l0 : List (S41)) (r : List (S41)) (w : World) (hr0 : Kd.C k41 w A0 l0.length l0) (hc0 : l0.length ≤ c0) (h : kimberlitelaw01_sets.f k l0 = some r) :
 Calls Tryz.prog 12 #[.slice A0 l0.length c0] w fun e w' => ∃ v0_ : Value, e = .returned (v0_) ∧ Kd.R k41 41 w' w.heap.size (fun _ => True) v0_ r ∧ Below w.heap.size w w' := by
 have hu41 := Tryz.underlying41
 have HR0 := Aside0.mk hr0
 have HC0 := Aside0.mk hc0
 clear hr0 hc0
 have HB := Aside0.mk (Below.refl w.heap.size w)
 have H : (kimberlitelaw01_sets.l0 k l0 ([] : List (S41)) 0) = some r := h
 clear h
 have H' := Aside0.mk H
 clear H
 go_enter Tryz.func12, Tryz.ntmps12
 go_wp2
 repeat (go_quiet (fail); try go_wp2)
 go_loopg [3, 4] k (fun kq v3 v4 w' => ∃ (x3_1 : List (S41)) (x4_1 : Int), v4 = .int .i64 x4_1 ∧ Aside0 (kimberlitelaw01_sets.l0 kq l0 x3_1 x4_1 = some r) ∧ Aside0 (kq ≤ k) ∧ Aside0 (Kd.R k41 41 w' w.heap.size (fun _ => True) v3 x3_1) ∧ Aside0 (Below w.heap.size w w'))
 case atStart => exact ⟨(([] : List (S41))), (0), (by first | rfl | (simp; done) | (simp [*]; done)), H', ⟨Nat.le_refl _⟩, ⟨by first | exact Kd.R_nil _ _ _ _ _ | exact Kd.N_nil _ _ _ _ _ | exact Kd.V_nil _ _ _ _ _ | exact Kd.Q_nil _ _ _ _ _ | exact Kd.S_nil _ _ _ _ _⟩, ⟨by repeat (first | (with_reducible first | exact HB.out | apply below_alloc | apply pw_below_drewN | apply below_drew1) | exact HB.out)⟩⟩
 case round =>
  clear H'
  try clear c1
  obtain ⟨x3_1, x4_1, rfl, HA, HK1, HO_3, HB⟩ := hrel
  cases gk with
  | zero => exact absurd HA.out (by simp [kimberlitelaw01_sets.l0])
  | succ k1 =>
   have H := HA.out
   clear HA
   simp only [kimberlitelaw01_sets.l0] at H
   have HC2 := Aside0.mk H
   clear H
   go_upto_region 3 with (fail)
   repeat (go_quiet (fail); go_upto_region 3 with (fail))
   go_cut [15] (fun v15 wc => ∃ (kq : Nat) (x15_1 : Bool), v15 = .bool x15_1 ∧ Aside0 (kimberlitelaw01_sets.j1 kq l0 x3_1 x4_1 x15_1 = some r) ∧ Aside0 (kq ≤ k1) ∧ Aside0 (Kd.R k41 41 wc w.heap.size (fun _ => True) u3 x3_1) ∧ Aside0 (Below w.heap.size w wc))
   case first =>
    have H := HC2.out
    clear HC2
    by_cases c3 : x4_1 < (l0.length : Int)
    · rw [if_pos c3] at H
      have c3b0 : decide (x4_1 < (l0.length : Int)) = true := decide_eq_true c3
      clear c3
      (first | rw [c3b0] | (simp only [i64_w, i32_w]; rw [c3b0]) | skip)
      have H' := Aside0.mk H
      clear H
      obtain ⟨Ao4, co4, eo4⟩ := Kd.R_slice HO_3.out
      subst eo4
      go_wp2
      repeat (go_quiet (fail); try go_wp2)
      go_meet
      case rel => exact ⟨_, (decide ((x3_1.length : Int) < 60)), (by first | rfl | (simp; done) | (simp [*]; done)), H', ⟨by have := HK1.out; first | omega | exact Nat.le_refl _⟩, ⟨by (with_reducible repeat (first | apply Kd.R_alloc | apply Kd.R_drewN | apply Kd.R_drew)); exact HO_3.out⟩, ⟨by repeat (first | (with_reducible first | exact HB.out | apply below_alloc | apply pw_below_drewN | apply below_drew1) | exact HB.out)⟩⟩
    · rw [if_neg c3] at H
      have c3b0 : decide (x4_1 < (l0.length : Int)) = false := decide_eq_false c3
      clear c3
      (first | rw [c3b0] | (simp only [i64_w, i32_w]; rw [c3b0]) | skip)
      have H' := Aside0.mk H
      clear H
      go_wp2
      repeat (go_quiet (fail); try go_wp2)
      go_meet
      case rel => exact ⟨_, (false), (by first | rfl | (simp; done) | (simp [*]; done)), H', ⟨by have := HK1.out; first | omega | exact Nat.le_refl _⟩, ⟨by (with_reducible repeat (first | apply Kd.R_alloc | apply Kd.R_drewN | apply Kd.R_drew)); exact HO_3.out⟩, ⟨by repeat (first | (with_reducible first | exact HB.out | apply below_alloc | apply pw_below_drewN | apply below_drew1) | exact HB.out)⟩⟩
   case rest =>
    clear HC2
    try clear c1
    try clear p2
    try clear c3
    try clear c3b0
    obtain ⟨kq, x15_1, rfl, HA, HJ1, HO_3, HB⟩ := hcut
    cases kq with
    | zero => exact absurd HA.out (by simp [kimberlitelaw01_sets.j1])
    | succ kj1 =>
     have H := HA.out
     clear HA
     simp only [kimberlitelaw01_sets.j1] at H
     by_cases c5 : x15_1 = true
     · subst c5
       have H1 : (if 0 ≤ x4_1 then (if x4_1 < (l0.length : Int) then (if ((rd_T41 l0 x4_1).f0) ≥ (-1099511627776) then (if ((rd_T41 l0 x4_1).f0) < ((rd_T41 l0 x4_1).f1) then (kimberlitelaw01_sets.j2 kj1 l0 x3_1 x4_1 (decide (((rd_T41 l0 x4_1).f1) ≤ 1099511627776))) else (kimberlitelaw01_sets.j2 kj1 l0 x3_1 x4_1 false)) else (kimberlitelaw01_sets.j2 kj1 l0 x3_1 x4_1 false)) else (none)) else (none)) = some r := by rw [if_pos rfl] at H; exact H
       clear H
       have H := H1
       clear H1
       have HC6 := Aside0.mk H
       clear H
       go_upto_region 5 with (fail)
       repeat (go_quiet (fail); go_upto_region 5 with (fail))
       go_cut [44] (fun v44 wc => ∃ (kq : Nat) (x44_5 : Bool), v44 = .bool x44_5 ∧ Aside0 (kimberlitelaw01_sets.j2 kq l0 x3_1 x4_1 x44_5 = some r) ∧ Aside0 (kq ≤ kj1) ∧ Aside0 (Kd.R k41 41 wc w.heap.size (fun _ => True) u3 x3_1) ∧ Aside0 (Below w.heap.size w wc))
       case first =>
        have H := HC6.out
        clear HC6
        by_cases c7 : 0 ≤ x4_1
        · rw [if_pos c7] at H
          have c7b0 : decide (0 ≤ x4_1) = true := decide_eq_true c7
          clear c7
          (first | rw [c7b0] | (simp only [i64_w, i32_w]; rw [c7b0]) | skip)
          by_cases c8 : x4_1 < (l0.length : Int)
          · rw [if_pos c8] at H
            have c8b0 : decide (x4_1 < (l0.length : Int)) = true := decide_eq_true c8
            clear c8
            by_cases c9 : ((rd_T41 l0 x4_1).f0) ≥ (-1099511627776)
            · rw [if_pos c9] at H
              have c9b0 : decide ((-1099511627776) ≤ ((rd_T41 l0 x4_1).f0)) = true := decide_eq_true c9
              clear c9
              by_cases c10 : ((rd_T41 l0 x4_1).f0) < ((rd_T41 l0 x4_1).f1)
              · rw [if_pos c10] at H
                have c10b0 : decide (((rd_T41 l0 x4_1).f0) < ((rd_T41 l0 x4_1).f1)) = true := decide_eq_true c10
                clear c10
                have H' := Aside0.mk H
                clear H
                have p103 : 0 ≤ (x4_1 : Int) := of_decide_eq_true (by first | (with_reducible assumption) | assumption)
                have q103 : x4_1 < (l0.length : Int) := of_decide_eq_true (by first | (with_reducible assumption) | assumption)
                obtain ⟨ad103, e103, hx103_0, hx103_1⟩ := at_T41 HR0.out x4_1 p103 q103
                cases e103
                replace hx103_0 := (HB.out.cell (World.block_lt_of_cell? w _ hx103_0)).trans hx103_0
                replace hx103_1 := (HB.out.cell (World.block_lt_of_cell? w _ hx103_1)).trans hx103_1
                replace p103 := eq_true p103
                replace q103 := eq_true q103
                have p104 : 0 ≤ (x4_1 : Int) := of_decide_eq_true (by first | (with_reducible assumption) | assumption)
                have q104 : x4_1 < (l0.length : Int) := of_decide_eq_true (by first | (with_reducible assumption) | assumption)
                obtain ⟨ad104, e104, hx104_0, hx104_1⟩ := at_T41 HR0.out x4_1 p104 q104
                obtain rfl : ad103 = ad104 := (by injection e104)
                replace hx104_0 := (HB.out.cell (World.block_lt_of_cell? w _ hx104_0)).trans hx104_0
                replace hx104_1 := (HB.out.cell (World.block_lt_of_cell? w _ hx104_1)).trans hx104_1
                replace p104 := eq_true p104
                replace q104 := eq_true q104
                have p105 : 0 ≤ (x4_1 : Int) := of_decide_eq_true (by first | (with_reducible assumption) | assumption)
                have q105 : x4_1 < (l0.length : Int) := of_decide_eq_true (by first | (with_reducible assumption) | assumption)
                obtain ⟨ad105, e105, hx105_0, hx105_1⟩ := at_T41 HR0.out x4_1 p105 q105
                obtain rfl : ad103 = ad105 := (by injection e105)
                replace hx105_0 := (HB.out.cell (World.block_lt_of_cell? w _ hx105_0)).trans hx105_0
                replace hx105_1 := (HB.out.cell (World.block_lt_of_cell? w _ hx105_1)).trans hx105_1
                replace p105 := eq_true p105
                replace q105 := eq_true q105
                have p106 : 0 ≤ (x4_1 : Int) := of_decide_eq_true (by first | (with_reducible assumption) | assumption)
                have q106 : x4_1 < (l0.length : Int) := of_decide_eq_true (by first | (with_reducible assumption) | assumption)
                obtain ⟨ad106, e106, hx106_0, hx106_1⟩ := at_T41 HR0.out x4_1 p106 q106
                obtain rfl : ad103 = ad106 := (by injection e106)
                replace hx106_0 := (HB.out.cell (World.block_lt_of_cell? w _ hx106_0)).trans hx106_0
                replace hx106_1 := (HB.out.cell (World.block_lt_of_cell? w _ hx106_1)).trans hx106_1
                replace p106 := eq_true p106
                replace q106 := eq_true q106
                go_wp2
                repeat (go_quiet (fail); try go_wp2)
                go_meet
                case rel => exact ⟨_, (decide (((rd_T41 l0 x4_1).f1) ≤ 1099511627776)), (by first | rfl | (simp; done) | (simp [*]; done)), H', ⟨by have := HK1.out; have := HJ1.out; first | omega | exact Nat.le_refl _⟩, ⟨by (with_reducible repeat (first | apply Kd.R_alloc | apply Kd.R_drewN | apply Kd.R_drew)); exact HO_3.out⟩, ⟨by repeat (first | (with_reducible first | exact HB.out | apply below_alloc | apply pw_below_drewN | apply below_drew1) | exact HB.out)⟩⟩
              · rw [if_neg c10] at H
                have c10b0 : decide (((rd_T41 l0 x4_1).f0) < ((rd_T41 l0 x4_1).f1)) = false := decide_eq_false c10
                clear c10
                have H' := Aside0.mk H
                clear H
                have p103 : 0 ≤ (x4_1 : Int) := of_decide_eq_true (by first | (with_reducible assumption) | assumption)
                have q103 : x4_1 < (l0.length : Int) := of_decide_eq_true (by first | (with_reducible assumption) | assumption)
                obtain ⟨ad103, e103, hx103_0, hx103_1⟩ := at_T41 HR0.out x4_1 p103 q103
                cases e103
                replace hx103_0 := (HB.out.cell (World.block_lt_of_cell? w _ hx103_0)).trans hx103_0
                replace hx103_1 := (HB.out.cell (World.block_lt_of_cell? w _ hx103_1)).trans hx103_1
                replace p103 := eq_true p103
                replace q103 := eq_true q103
                have p104 : 0 ≤ (x4_1 : Int) := of_decide_eq_true (by first | (with_reducible assumption) | assumption)
                have q104 : x4_1 < (l0.length : Int) := of_decide_eq_true (by first | (with_reducible assumption) | assumption)
                obtain ⟨ad104, e104, hx104_0, hx104_1⟩ := at_T41 HR0.out x4_1 p104 q104
                obtain rfl : ad103 = ad104 := (by injection e104)
                replace hx104_0 := (HB.out.cell (World.block_lt_of_cell? w _ hx104_0)).trans hx104_0
                replace hx104_1 := (HB.out.cell (World.block_lt_of_cell? w _ hx104_1)).trans hx104_1
                replace p104 := eq_true p104
                replace q104 := eq_true q104
                have p105 : 0 ≤ (x4_1 : Int) := of_decide_eq_true (by first | (with_reducible assumption) | assumption)
                have q105 : x4_1 < (l0.length : Int) := of_decide_eq_true (by first | (with_reducible assumption) | assumption)
                obtain ⟨ad105, e105, hx105_0, hx105_1⟩ := at_T41 HR0.out x4_1 p105 q105
                obtain rfl : ad103 = ad105 := (by injection e105)
                replace hx105_0 := (HB.out.cell (World.block_lt_of_cell? w _ hx105_0)).trans hx105_0
                replace hx105_1 := (HB.out.cell (World.block_lt_of_cell? w _ hx105_1)).trans hx105_1
                replace p105 := eq_true p105
                replace q105 := eq_true q105
                go_wp2
                repeat (go_quiet (fail); try go_wp2)
                go_meet
                case rel => exact ⟨_, (false), (by first | rfl | (simp; done) | (simp [*]; done)), H', ⟨by have := HK1.out; have := HJ1.out; first | omega | exact Nat.le_refl _⟩, ⟨by (with_reducible repeat (first | apply Kd.R_alloc | apply Kd.R_drewN | apply Kd.R_drew)); exact HO_3.out⟩, ⟨by repeat (first | (with_reducible first | exact HB.out | apply below_alloc | apply pw_below_drewN | apply below_drew1) | exact HB.out)⟩⟩
            · rw [if_neg c9] at H
              have c9b0 : decide ((-1099511627776) ≤ ((rd_T41 l0 x4_1).f0)) = false := decide_eq_false c9
              clear c9
              have H' := Aside0.mk H
              clear H
              have p103 : 0 ≤ (x4_1 : Int) := of_decide_eq_true (by first | (with_reducible assumption) | assumption)
              have q103 : x4_1 < (l0.length : Int) := of_decide_eq_true (by first | (with_reducible assumption) | assumption)
              obtain ⟨ad103, e103, hx103_0, hx103_1⟩ := at_T41 HR0.out x4_1 p103 q103
              cases e103
              replace hx103_0 := (HB.out.cell (World.block_lt_of_cell? w _ hx103_0)).trans hx103_0
              replace hx103_1 := (HB.out.cell (World.block_lt_of_cell? w _ hx103_1)).trans hx103_1
              replace p103 := eq_true p103
              replace q103 := eq_true q103
              go_wp2
              repeat (go_quiet (fail); try go_wp2)
              go_meet
              case rel => exact ⟨_, (false), (by first | rfl | (simp; done) | (simp [*]; done)), H', ⟨by have := HK1.out; have := HJ1.out; first | omega | exact Nat.le_refl _⟩, ⟨by (with_reducible repeat (first | apply Kd.R_alloc | apply Kd.R_drewN | apply Kd.R_drew)); exact HO_3.out⟩, ⟨by repeat (first | (with_reducible first | exact HB.out | apply below_alloc | apply pw_below_drewN | apply below_drew1) | exact HB.out)⟩⟩
          · rw [if_neg c8] at H
            exact absurd H (by simp)
        · rw [if_neg c7] at H
          exact absurd H (by simp)
       case rest =>
        clear HC6
        try clear c1
        try clear p1
        try clear q1
        try clear hx1
        try clear p2
        try clear c3
        try clear c3b0
        try clear c5
        try clear c7
        try clear c7b0
        try clear c8
        try clear c8b0
        try clear c9
        try clear c9b0
        try clear c10
        try clear c10b0
        try clear p10
        try clear q10
        try clear hx10
        try clear hx103_0
        try clear hx103_1
        try clear hx104_0
        try clear hx104_1
        try clear hx105_0
        try clear hx105_1
        try clear hx106_0
        try clear hx106_1
        try clear p103
        try clear p104
        try clear p105
        try clear p106
        try clear p2
        try clear q103
        try clear q104
        try clear q105
        try clear q106
        obtain ⟨kq, x44_5, rfl, HA, HJ5, HO_3, HB⟩ := hcut
        cases kq with
        | zero => exact absurd HA.out (by simp [kimberlitelaw01_sets.j2])
        | succ kj5 =>
         have H := HA.out
         clear HA
         simp only [kimberlitelaw01_sets.j2] at H
         by_cases c11 : x44_5 = true
         · subst c11
           have H1 : (if 0 ≤ x4_1 then (if x4_1 < (l0.length : Int) then (if x3_1.length < 8796093022208 then (kimberlitelaw01_sets.l0 kj5 l0 (x3_1 ++ [(⟨(rd_T41 l0 x4_1).f0, (rd_T41 l0 x4_1).f1⟩ : S41)]) (wrap64 (x4_1 + 1))) else (none)) else (none)) else (none)) = some r := by rw [if_pos rfl] at H; exact H
           clear H
           have H := H1
           clear H1
           by_cases c12 : 0 ≤ x4_1
           · rw [if_pos c12] at H
             have c12b0 : decide (0 ≤ x4_1) = true := decide_eq_true c12
             clear c12
             by_cases c13 : x4_1 < (l0.length : Int)
             · rw [if_pos c13] at H
               have c13b0 : decide (x4_1 < (l0.length : Int)) = true := decide_eq_true c13
               clear c13
               by_cases c14 : x3_1.length < 8796093022208
               · rw [if_pos c14] at H
                 have LMc14 := Aside0.mk c14
                 clear c14
                 obtain ⟨y108, hy108⟩ : ∃ y_ : List (S41), y_ = (x3_1 ++ [(⟨(rd_T41 l0 x4_1).f0, (rd_T41 l0 x4_1).f1⟩ : S41)]) := ⟨_, rfl⟩
                 replace H : (kimberlitelaw01_sets.l0 kj5 l0 y108 (wrap64 (x4_1 + 1))) = some r := by first | (rw [hy108]; with_reducible exact H) | (have H2_ := (Option.bind_some _ _).symm.trans H; rw [hy108]; with_reducible exact H2_) | (have H2_ := (Option.bind_some _ _).symm.trans H; with_reducible exact H2_) | with_reducible exact H | (rw [hy108]; exact H) | exact H
                 have Ny108 := Aside0.mk hy108
                 clear hy108
                 have H' := Aside0.mk H
                 clear H
                 have p107 : 0 ≤ (x4_1 : Int) := of_decide_eq_true (by first | (with_reducible assumption) | assumption)
                 have q107 : x4_1 < (l0.length : Int) := of_decide_eq_true (by first | (with_reducible assumption) | assumption)
                 obtain ⟨ad107, e107, hx107_0, hx107_1⟩ := at_T41 HR0.out x4_1 p107 q107
                 cases e107
                 replace hx107_0 := (HB.out.cell (World.block_lt_of_cell? w _ hx107_0)).trans hx107_0
                 replace hx107_1 := (HB.out.cell (World.block_lt_of_cell? w _ hx107_1)).trans hx107_1
                 replace p107 := eq_true p107
                 replace q107 := eq_true q107
                 go_wp2_with (first | ((with_reducible refine gate_builtin (b := .append) (xs := #[.tmp 45, .tmp 50]) rfl ?_); (try (refine gate_guard (by rfl) ?_; dsimp only)); at_builtin; refine Kd.R_append k41 (w0 := w) w.heap.size rfl (.tmp 45) (.tmp 50) 22 41 (.agg #[(.int .i64 0), (.int .i64 0)]) 16 rfl Tryz.underlying22 info41 rfl (by decide) (by omega) u3 x3_1 (⟨(rd_T41 l0 x4_1).f0, (rd_T41 l0 x4_1).f1⟩ : S41) [.int .i64 ((rd_T41 l0 x4_1).f0), .int .i64 ((rd_T41 l0 x4_1).f1)] (fun _ => True) (fun _ => False) rfl rfl ?aP (fun _ hk => hk.elim) ?aF ?aO ?aB ?aS ?aL ?_; (case aP => exact k41_mkM _ _ _ (⟨(rd_T41 l0 x4_1).f0, (rd_T41 l0 x4_1).f1⟩ : S41)); (case aB => exact (by repeat (first | (with_reducible first | exact HB.out | apply below_alloc | apply pw_below_drewN | apply below_drew1) | exact HB.out))); (case aF => exact (fun _ _ => trivial)); (case aO => exact (by (with_reducible repeat (first | apply Kd.R_alloc | apply Kd.R_drewN | apply Kd.R_drew)); exact HO_3.out)); (case aS => exact (below_size (by repeat (first | (with_reducible first | exact HB.out | apply below_alloc | apply pw_below_drewN | apply below_drew1) | exact HB.out)))); (case aL => have := LMc14.out; omega); intro v109 w15 ho hb hg hat; rw [← Ny108.out] at ho; have n0_ := Aside0.mk (hb); have n1_ := Aside0.mk (ho); clear HB; clear HO_3; have HB := n0_; have HO110 := n1_; clear n0_ n1_; clear ho hb hg hat))
                 repeat (go_quiet (fail); try go_wp2_with (first | ((with_reducible refine gate_builtin (b := .append) (xs := #[.tmp 45, .tmp 50]) rfl ?_); (try (refine gate_guard (by rfl) ?_; dsimp only)); at_builtin; refine Kd.R_append k41 (w0 := w) w.heap.size rfl (.tmp 45) (.tmp 50) 22 41 (.agg #[(.int .i64 0), (.int .i64 0)]) 16 rfl Tryz.underlying22 info41 rfl (by decide) (by omega) u3 x3_1 (⟨(rd_T41 l0 x4_1).f0, (rd_T41 l0 x4_1).f1⟩ : S41) [.int .i64 ((rd_T41 l0 x4_1).f0), .int .i64 ((rd_T41 l0 x4_1).f1)] (fun _ => True) (fun _ => False) rfl rfl ?aP (fun _ hk => hk.elim) ?aF ?aO ?aB ?aS ?aL ?_; (case aP => exact k41_mkM _ _ _ (⟨(rd_T41 l0 x4_1).f0, (rd_T41 l0 x4_1).f1⟩ : S41)); (case aB => exact (by repeat (first | (with_reducible first | exact HB.out | apply below_alloc | apply pw_below_drewN | apply below_drew1) | exact HB.out))); (case aF => exact (fun _ _ => trivial)); (case aO => exact (by (with_reducible repeat (first | apply Kd.R_alloc | apply Kd.R_drewN | apply Kd.R_drew)); exact HO_3.out)); (case aS => exact (below_size (by repeat (first | (with_reducible first | exact HB.out | apply below_alloc | apply pw_below_drewN | apply below_drew1) | exact HB.out)))); (case aL => have := LMc14.out; omega); intro v109 w15 ho hb hg hat; rw [← Ny108.out] at ho; have n0_ := Aside0.mk (hb); have n1_ := Aside0.mk (ho); clear HB; clear HO_3; have HB := n0_; have HO110 := n1_; clear n0_ n1_; clear ho hb hg hat)))
                 go_roundg kj5
                 case measure => have := HK1.out; have := HJ1.out; have := HJ5.out; omega
                 case rel => exact ⟨(y108), (wrap64 (x4_1 + 1)), (by first | rfl | (simp; done) | (simp [*]; done)), H', ⟨by have := HK1.out; have := HJ1.out; have := HJ5.out; omega⟩, ⟨by (with_reducible repeat (first | apply Kd.R_alloc | apply Kd.R_drewN | apply Kd.R_drew)); exact HO110.out⟩, ⟨by repeat (first | (with_reducible first | exact HB.out | apply below_alloc | apply pw_below_drewN | apply below_drew1) | exact HB.out)⟩⟩
               · rw [if_neg c14] at H
                 exact absurd H (by simp)
             · rw [if_neg c13] at H
               exact absurd H (by simp)
           · rw [if_neg c12] at H
             exact absurd H (by simp)
         · replace c11 := Bool.eq_false_iff.mpr c11
           subst c11
           have H1 : (kimberlitelaw01_sets.l0 kj5 l0 x3_1 (wrap64 (x4_1 + 1))) = some r := by rw [if_neg (show ¬ (false = true) by decide)] at H; exact H
           clear H
           have H := H1
           clear H1
           have H' := Aside0.mk H
           clear H
           go_wp2
           repeat (go_quiet (fail); try go_wp2)
           go_roundg kj5
           case measure => have := HK1.out; have := HJ1.out; have := HJ5.out; omega
           case rel => exact ⟨(x3_1), (wrap64 (x4_1 + 1)), (by first | rfl | (simp; done) | (simp [*]; done)), H', ⟨by have := HK1.out; have := HJ1.out; have := HJ5.out; omega⟩, ⟨by (with_reducible repeat (first | apply Kd.R_alloc | apply Kd.R_drewN | apply Kd.R_drew)); exact HO_3.out⟩, ⟨by repeat (first | (with_reducible first | exact HB.out | apply below_alloc | apply pw_below_drewN | apply below_drew1) | exact HB.out)⟩⟩
     · replace c5 := Bool.eq_false_iff.mpr c5
       subst c5
       have H1 : ((span_Of.f kj1 x3_1).bind fun bt111 => (some bt111.1)) = some r := by rw [if_neg (show ¬ (false = true) by decide)] at H; exact H
       clear H
       have H := H1
       clear H1
       replace H := Option.bind_eq_some_iff.mp H
       obtain ⟨⟨t111, t112⟩, A160, H⟩ := H
       replace H : (some t111) = some r := H
       have A16 := Aside0.mk A160
       clear A160
       obtain rfl := Option.some.inj H
       obtain ⟨Ao17, co17, eo17⟩ := Kd.R_slice HO_3.out
       subst eo17
       go_wp2_with (first | (go_at_call 19; (with_reducible refine (span_Of.calls kj1 _ _ x3_1 t111 t112 _ ?side1 ?side2 A16.out).mono ?_); (case side1 => repeat (first | exact (Kd.R_reads' HO_3.out).2.2 | (with_reducible refine Kd.C_alloc ?_ _) | (with_reducible refine Kd.C_drewN ?_ _) | (with_reducible refine Kd.C_drew ?_))); (case side2 => exact (Kd.R_reads' HO_3.out).2.1); rintro e w18 ⟨v113, rfl, ho0, hb⟩; have n0_ := Aside0.mk (Kd.R_elder' (by (with_reducible repeat (first | apply Kd.R_alloc | apply Kd.R_drewN | apply Kd.R_drew)); exact HO_3.out) (Kd.R_base ho0) hb); have n1_ := Aside0.mk (Kd.R_lower (Kd.R_new' ho0 (Kd.R_lt (by (with_reducible repeat (first | apply Kd.R_alloc | apply Kd.R_drewN | apply Kd.R_drew)); exact HO_3.out))) (below_size (by repeat (first | (with_reducible first | exact HB.out | apply below_alloc | apply pw_below_drewN | apply below_drew1) | exact HB.out)))); have n2_ := Aside0.mk (below_step (by repeat (first | (with_reducible first | exact HB.out | apply below_alloc | apply pw_below_drewN | apply below_drew1) | exact HB.out)) hb); clear HO_3; clear HB; have HO_3 := n0_; have HO114 := n1_; have HB := n2_; clear n0_ n1_ n2_; (try clear hb); (try clear hb2); (try clear hk); (try clear hi); (try clear ho0)))
       repeat (go_quiet (first | (go_at_call 19; (with_reducible refine (span_Of.calls kj1 _ _ x3_1 t111 t112 _ ?side1 ?side2 A16.out).mono ?_); (case side1 => repeat (first | exact (Kd.R_reads' HO_3.out).2.2 | (with_reducible refine Kd.C_alloc ?_ _) | (with_reducible refine Kd.C_drewN ?_ _) | (with_reducible refine Kd.C_drew ?_))); (case side2 => exact (Kd.R_reads' HO_3.out).2.1); rintro e w18 ⟨v113, rfl, ho0, hb⟩; have n0_ := Aside0.mk (Kd.R_elder' (by (with_reducible repeat (first | apply Kd.R_alloc | apply Kd.R_drewN | apply Kd.R_drew)); exact HO_3.out) (Kd.R_base ho0) hb); have n1_ := Aside0.mk (Kd.R_lower (Kd.R_new' ho0 (Kd.R_lt (by (with_reducible repeat (first | apply Kd.R_alloc | apply Kd.R_drewN | apply Kd.R_drew)); exact HO_3.out))) (below_size (by repeat (first | (with_reducible first | exact HB.out | apply below_alloc | apply pw_below_drewN | apply below_drew1) | exact HB.out)))); have n2_ := Aside0.mk (below_step (by repeat (first | (with_reducible first | exact HB.out | apply below_alloc | apply pw_below_drewN | apply below_drew1) | exact HB.out)) hb); clear HO_3; clear HB; have HO_3 := n0_; have HO114 := n1_; have HB := n2_; clear n0_ n1_ n2_; (try clear hb); (try clear hb2); (try clear hk); (try clear hi); (try clear ho0))); try go_wp2_with (first | (go_at_call 19; (with_reducible refine (span_Of.calls kj1 _ _ x3_1 t111 t112 _ ?side1 ?side2 A16.out).mono ?_); (case side1 => repeat (first | exact (Kd.R_reads' HO_3.out).2.2 | (with_reducible refine Kd.C_alloc ?_ _) | (with_reducible refine Kd.C_drewN ?_ _) | (with_reducible refine Kd.C_drew ?_))); (case side2 => exact (Kd.R_reads' HO_3.out).2.1); rintro e w18 ⟨v113, rfl, ho0, hb⟩; have n0_ := Aside0.mk (Kd.R_elder' (by (with_reducible repeat (first | apply Kd.R_alloc | apply Kd.R_drewN | apply Kd.R_drew)); exact HO_3.out) (Kd.R_base ho0) hb); have n1_ := Aside0.mk (Kd.R_lower (Kd.R_new' ho0 (Kd.R_lt (by (with_reducible repeat (first | apply Kd.R_alloc | apply Kd.R_drewN | apply Kd.R_drew)); exact HO_3.out))) (below_size (by repeat (first | (with_reducible first | exact HB.out | apply below_alloc | apply pw_below_drewN | apply below_drew1) | exact HB.out)))); have n2_ := Aside0.mk (below_step (by repeat (first | (with_reducible first | exact HB.out | apply below_alloc | apply pw_below_drewN | apply below_drew1) | exact HB.out)) hb); clear HO_3; clear HB; have HO_3 := n0_; have HO114 := n1_; have HB := n2_; clear n0_ n1_ n2_; (try clear hb); (try clear hb2); (try clear hk); (try clear hi); (try clear ho0))))
       go_ret
       exact ⟨_, by first | rfl | (simp [errW_none, errW_some] <;> rfl) | (simp [*, errW_none, errW_some] <;> rfl), by (with_reducible repeat (first | apply Kd.R_alloc | apply Kd.R_drewN | apply Kd.R_drew)); exact Kd.R_mono HO114.out (fun _ hk => trivial), by repeat (first | (with_reducible first | exact HB.out | apply below_alloc | apply pw_below_drewN | apply below_drew1) | exact HB.out)⟩
end Go.Proofs.YtmomcbhgggggnaaGreatDoor.Pr
end
section
namespace Go.Proofs.YtmomcbhgggggnaaGreatDoor.Pr
open Go.RowKit Go.Proofs.YtmomcbhgggggnaaGreatDoorW.PrintWords Go.Proofs.YtmomcbhgggggnaaGreatDoorW.PrintLast Go.Proofs.YtmomcbhgggggnaaGreatDoorW.PrintMore
attribute [local go_sem] max2_int min2_int max_two min_two max_three min_three max_four min_four   -- for this text's walks alone
set_option linter.unusedVariables false
set_option linter.unusedSimpArgs false
mutual
def span_Nth.j0 : Nat → List (S41) → Int → Bool → Option (Int × Int)
 | 0, _, _, _ => none
 | k + 1, x0, x1, x19 => if x19 = true then (some (0, 6)) else (span_Nth.l0 k x1 x0 (x0.length : Int) 0)
def span_Nth.l0 : Nat → Int → List (S41) → Int → Int → Option (Int × Int)
 | 0, _, _, _, _ => none
 | k + 1, x1, x27, x28, x29 => if x29 < x28 then (if 0 ≤ x29 then (if x29 < (x27.length : Int) then (if x1 < (wrap64 (((rd_T41 x27 x29).f1) - ((rd_T41 x27 x29).f0))) then (some (wrap64 (((rd_T41 x27 x29).f0) + x1), 0)) else (span_Nth.l0 k (wrap64 (x1 - (wrap64 (((rd_T41 x27 x29).f1) - ((rd_T41 x27 x29).f0))))) x27 x28 (wrap64 (x29 + 1)))) else (none)) else (none)) else (some (0, 6))
end
def span_Nth.f (k : Nat) (l0 : List (S41)) (a1 : Int) : Option (Int × Int) := (span_Size.f k l0).bind fun bt115 => (if bt115.2 = 0 then (if a1 < 0 then (span_Nth.j0 k l0 a1 true) else (span_Nth.j0 k l0 a1 (decide (a1 ≥ bt115.1)))) else (some (0, bt115.2)))
theorem span_Nth.mono_l : ∀ k, (∀ y0 y1 y2, LeO (span_Nth.j0 k y0 y1 y2) (span_Nth.j0 (k + 1) y0 y1 y2)) ∧ (∀ y0 y1 y2 y3, LeO (span_Nth.l0 k y0 y1 y2 y3) (span_Nth.l0 (k + 1) y0 y1 y2 y3))
 | 0 => ⟨fun _ _ _ r h => by simp [span_Nth.j0] at h, fun _ _ _ _ r h => by simp [span_Nth.l0] at h⟩
 | k + 1 => by
  obtain ⟨ih0, ih1⟩ := span_Nth.mono_l k
  refine ⟨?_, ?_⟩
  · intro y0 y1 y2
    unfold span_Nth.j0
    repeat' first
    | (with_reducible exact ih0 _ _ _)
    | (with_reducible exact ih1 _ _ _ _)
    | (with_reducible exact span_Size.mono _ _)
    | (with_reducible exact LeO.refl _)
    | (with_reducible exact LeO.none _)
    | (with_reducible refine LeO.ite ?_ ?_)
    | (with_reducible refine LeO.bind ?_ (fun _ => ?_))
    | exact ih0 _ _ _
    | exact ih1 _ _ _ _
    | exact span_Size.mono _ _
    | exact LeO.none _
    | refine LeO.ite ?_ ?_
    | refine LeO.bind ?_ (fun _ => ?_)
  · intro y0 y1 y2 y3
    unfold span_Nth.l0
    repeat' first
    | (with_reducible exact ih0 _ _ _)
    | (with_reducible exact ih1 _ _ _ _)
    | (with_reducible exact span_Size.mono _ _)
    | (with_reducible exact LeO.refl _)
    | (with_reducible exact LeO.none _)
    | (with_reducible refine LeO.ite ?_ ?_)
    | (with_reducible refine LeO.bind ?_ (fun _ => ?_))
    | exact ih0 _ _ _
    | exact ih1 _ _ _ _
    | exact span_Size.mono _ _
    | exact LeO.none _
    | refine LeO.ite ?_ ?_
    | refine LeO.bind ?_ (fun _ => ?_)
theorem span_Nth.mono : ∀ a0 a1 k, LeO (span_Nth.f k a0 a1) (span_Nth.f (k + 1) a0 a1) := by
 intro a0 a1 k
 obtain ⟨ih0, ih1⟩ := span_Nth.mono_l k
 unfold span_Nth.f
 repeat' first
  | (with_reducible exact ih0 _ _ _)
  | (with_reducible exact ih1 _ _ _ _)
  | (with_reducible exact span_Size.mono _ _)
  | (with_reducible exact LeO.refl _)
  | (with_reducible exact LeO.none _)
  | (with_reducible refine LeO.ite ?_ ?_)
  | (with_reducible refine LeO.bind ?_ (fun _ => ?_))
  | exact ih0 _ _ _
  | exact ih1 _ _ _ _
  | exact span_Size.mono _ _
  | exact LeO.none _
  | refine LeO.ite ?_ ?_
  | refine LeO.bind ?_ (fun _ => ?_)
set_option maxHeartbeats 8000000 in
set_option maxRecDepth 100000 in
theorem span_Nth.calls (k : Nat) (A0 : Option Addr) (c0 : Nat) (l0 : List (S41)) (a1 : Int) (r1 : Int) (r2 : Int) (w : World) (hr0 : Kd.C k41 w A0 l0.length l0) (hc0 : l0.length ≤ c0) (h : span_Nth.f k l0 a1 = some (r1, r2)) :
 Calls Tryz.prog 17 #[.slice A0 l0.length c0, .int .i64 a1] w fun e w' => e = .returned (.tuple #[.int .i64 r1, .int .i64 r2]) ∧ Below w.heap.size w w' := by
 have hu41 := Tryz.underlying41
 have HR0 := Aside0.mk hr0
 have HC0 := Aside0.mk hc0
 clear hr0 hc0
 have HB := Aside0.mk (Below.refl w.heap.size w)
 have H : ((span_Size.f k l0).bind fun bt115 => (if bt115.2 = 0 then (if a1 < 0 then (span_Nth.j0 k l0 a1 true) else (span_Nth.j0 k l0 a1 (decide (a1 ≥ bt115.1)))) else (some (0, bt115.2)))) = some (r1, r2) := h
 clear h
 replace H := Option.bind_eq_some_iff.mp H
 obtain ⟨⟨t115, t116⟩, A30, H⟩ := H
 replace H : (if t116 = 0 then (if a1 < 0 then (span_Nth.j0 k l0 a1 true) else (span_Nth.j0 k l0 a1 (decide (a1 ≥ t115)))) else (some (0, t116))) = some (r1, r2) := H
 have A3 := Aside0.mk A30
 clear A30
 by_cases c4 : t116 = 0
 · rw [if_pos c4] at H
   have c4b0 : (t116 == 0) = true := beq_iff_eq.mpr c4
   have c4b1 : (t116 != 0) = false := bne_eq_false_iff_eq.mpr c4
   clear c4
   have HC5 := Aside0.mk H
   clear H
   go_enter Tryz.func17, Tryz.ntmps17
   go_upto_region 4 with (first | ((with_reducible refine gate_callee (f := 15) rfl ?_); refine goesL_ (some 12) rfl rfl Tryz.func15 (by kernel_rfl) rfl #[.slice A0 l0.length c0] rfl (by (try simp only [List.map_toArray, List.map_cons, List.map_nil]); first | done | rfl | (simp only [List.length_drop, List.length_take]; rfl)) ?_; (with_reducible refine (span_Size.calls k _ _ l0 t115 t116 _ ?side1 ?side2 A3.out).mono ?_); (case side1 => repeat (first | exact HR0.out | (with_reducible refine Kd.C_alloc ?_ _) | (with_reducible refine Kd.C_drewN ?_ _) | (with_reducible refine Kd.C_drew ?_))); (case side2 => exact HC0.out); rintro e w6 ⟨rfl, hb⟩; refine ⟨_, rfl, ?_⟩; have n0_ := Aside0.mk (below_step (by repeat (first | (with_reducible first | exact HB.out | apply below_alloc | apply pw_below_drewN | apply below_drew1) | exact HB.out)) hb); clear HB; have HB := n0_; clear n0_; (try clear hb); (try clear hb2); (try clear hk); (try clear hi)))
   (try simp only [Act.put, List.setIfInBounds_toArray, List.set_cons_zero, List.set_cons_succ])
   go_cut [19] (fun v19 wc => ∃ (kq : Nat) (x19_4 : Bool), v19 = .bool x19_4 ∧ Aside0 (span_Nth.j0 kq l0 a1 x19_4 = some (r1, r2)) ∧ Aside0 (kq ≤ k) ∧ Aside0 (Below w.heap.size w wc))
   case first =>
    have H := HC5.out
    clear HC5
    by_cases c7 : a1 < 0
    · rw [if_pos c7] at H
      have c7b0 : decide (a1 < 0) = true := decide_eq_true c7
      clear c7
      (first | rw [c7b0] | (simp only [i64_w, i32_w]; rw [c7b0]) | skip)
      have H' := Aside0.mk H
      clear H
      go_wp2
      go_meet
      case rel => exact ⟨_, (true), (by first | rfl | (simp; done) | (simp [*]; done)), H', ⟨by first | omega | exact Nat.le_refl _⟩, ⟨by repeat (first | (with_reducible first | exact HB.out | apply below_alloc | apply pw_below_drewN | apply below_drew1) | exact HB.out)⟩⟩
    · rw [if_neg c7] at H
      have c7b0 : decide (a1 < 0) = false := decide_eq_false c7
      clear c7
      (first | rw [c7b0] | (simp only [i64_w, i32_w]; rw [c7b0]) | skip)
      have H' := Aside0.mk H
      clear H
      go_wp2
      go_meet
      case rel => exact ⟨_, (decide (a1 ≥ t115)), (by first | rfl | (simp; done) | (simp [*]; done)), H', ⟨by first | omega | exact Nat.le_refl _⟩, ⟨by repeat (first | (with_reducible first | exact HB.out | apply below_alloc | apply pw_below_drewN | apply below_drew1) | exact HB.out)⟩⟩
   case rest =>
    clear HC5
    try clear c1
    try clear p2
    try clear c4
    try clear c4b0
    try clear c4b1
    try clear c7
    try clear c7b0
    obtain ⟨kq, x19_4, rfl, HA, HJ4, HB⟩ := hcut
    cases kq with
    | zero => exact absurd HA.out (by simp [span_Nth.j0])
    | succ kj4 =>
     have H := HA.out
     clear HA
     simp only [span_Nth.j0] at H
     by_cases c8 : x19_4 = true
     · subst c8
       have H1 : (some (0, 6)) = some (r1, r2) := by rw [if_pos rfl] at H; exact H
       clear H
       have H := H1
       clear H1
       simp only [Option.some.injEq, Prod.mk.injEq] at H
       obtain ⟨rfl, rfl⟩ := H
       go_wp2
       go_ret2
       exact ⟨by first | rfl | (simp [errW_none, errW_some] <;> rfl) | (simp [*, errW_none, errW_some] <;> rfl), by repeat (first | (with_reducible first | exact HB.out | apply below_alloc | apply pw_below_drewN | apply below_drew1) | exact HB.out)⟩
     · replace c8 := Bool.eq_false_iff.mpr c8
       subst c8
       have H1 : (span_Nth.l0 kj4 a1 l0 (l0.length : Int) 0) = some (r1, r2) := by rw [if_neg (show ¬ (false = true) by decide)] at H; exact H
       clear H
       have H := H1
       clear H1
       have H' := Aside0.mk H
       clear H
       go_wp2
       go_loopg [1, 29] kj4 (fun kq v1 v29 w' => ∃ (x1_2 : Int) (x29_2 : Int), v1 = .int .i64 x1_2 ∧ v29 = .int .i64 x29_2 ∧ Aside0 (span_Nth.l0 kq x1_2 l0 (l0.length : Int) x29_2 = some (r1, r2)) ∧ Aside0 (kq ≤ kj4) ∧ Aside0 (Below w.heap.size w w'))
       case atStart => exact ⟨(a1), (0), (by first | rfl | (simp; done) | (simp [*]; done)), (by first | rfl | (simp; done) | (simp [*]; done)), H', ⟨Nat.le_refl _⟩, ⟨by repeat (first | (with_reducible first | exact HB.out | apply below_alloc | apply pw_below_drewN | apply below_drew1) | exact HB.out)⟩⟩
       case round =>
        clear H'
        try clear c1
        try clear p2
        try clear c4
        try clear c4b0
        try clear c4b1
        try clear c7
        try clear c7b0
        try clear c8
        try clear p2
        obtain ⟨x1_2, x29_2, rfl, rfl, HA, HK2, HB⟩ := hrel
        cases gk with
        | zero => exact absurd HA.out (by simp [span_Nth.l0])
        | succ k2 =>
         have H := HA.out
         clear HA
         simp only [span_Nth.l0] at H
         by_cases c9 : x29_2 < (l0.length : Int)
         · rw [if_pos c9] at H
           have c9b0 : decide (x29_2 < (l0.length : Int)) = true := decide_eq_true c9
           clear c9
           by_cases c10 : 0 ≤ x29_2
           · rw [if_pos c10] at H
             have c10b0 : decide (0 ≤ x29_2) = true := decide_eq_true c10
             clear c10
             by_cases c11 : x29_2 < (l0.length : Int)
             · rw [if_pos c11] at H
               have c11b0 : decide (x29_2 < (l0.length : Int)) = true := decide_eq_true c11
               clear c11
               by_cases c12 : x1_2 < (wrap64 (((rd_T41 l0 x29_2).f1) - ((rd_T41 l0 x29_2).f0)))
               · rw [if_pos c12] at H
                 have c12b0 : decide (x1_2 < (wrap64 (((rd_T41 l0 x29_2).f1) - ((rd_T41 l0 x29_2).f0)))) = true := decide_eq_true c12
                 clear c12
                 simp only [Option.some.injEq, Prod.mk.injEq] at H
                 obtain ⟨rfl, rfl⟩ := H
                 have p117 : 0 ≤ (x29_2 : Int) := of_decide_eq_true (by first | (with_reducible assumption) | assumption)
                 have q117 : x29_2 < (l0.length : Int) := of_decide_eq_true (by first | (with_reducible assumption) | assumption)
                 obtain ⟨ad117, e117, hx117_0, hx117_1⟩ := at_T41 HR0.out x29_2 p117 q117
                 cases e117
                 replace hx117_0 := (HB.out.cell (World.block_lt_of_cell? w _ hx117_0)).trans hx117_0
                 replace hx117_1 := (HB.out.cell (World.block_lt_of_cell? w _ hx117_1)).trans hx117_1
                 replace p117 := eq_true p117
                 replace q117 := eq_true q117
                 go_wp2_with (first | ((with_reducible refine gate_dst (N := 9) rfl ?_); refine box_event ?hg (N := 9) ?hd (cs := #[.int .i64 0, .int .i64 0]) (t := 41) ?hr ?_; (case hd => rfl); (case hg => rfl); (case hr => first | (go_simp; done) | (go_simp; rfl)); intro gb118 hg w13 hbox hb; have n0_ := Aside0.mk (below_step (by repeat (first | (with_reducible first | exact HB.out | apply below_alloc | apply pw_below_drewN | apply below_drew1) | exact HB.out)) hb); have n1_ := Aside0.mk (hbox); have n2_ := Aside0.mk ((by rw [hg]; exact (below_size (by repeat (first | (with_reducible first | exact HB.out | apply below_alloc | apply pw_below_drewN | apply below_drew1) | exact HB.out))) : w.heap.size ≤ gb118)); have n3_ := Aside0.mk ((by rw [hg]; exact (below_size (by repeat (first | (with_reducible first | exact HB.out | apply below_alloc | apply pw_below_drewN | apply below_drew1) | exact HB.out))) : w.heap.size ≤ gb118)); clear HB; have HB := n0_; have BK118 := n1_; have GW118 := n2_; have GE118 := n3_; clear n0_ n1_ n2_ n3_; clear hb hbox hg; have hcz14_0 : w13.cell? ⟨gb118, 0, none⟩ = some (.int .i64 0) := (blk_cell BK118.out 0).trans rfl; have hcz14_1 : w13.cell? ⟨gb118, 1, none⟩ = some (.int .i64 0) := (blk_cell BK118.out 1).trans rfl; have hfz14_0 := blk_frozen BK118.out 0; have hfz14_1 := blk_frozen BK118.out 1))
                 go_ret2
                 exact ⟨by first | rfl | (simp [errW_none, errW_some] <;> rfl) | (simp [*, errW_none, errW_some] <;> rfl), by repeat (first | (with_reducible first | exact HB.out | apply below_alloc | apply pw_below_drewN | apply below_drew1 | refine below_set ?_ GE118.out) | exact HB.out)⟩
               · rw [if_neg c12] at H
                 have c12b0 : decide (x1_2 < (wrap64 (((rd_T41 l0 x29_2).f1) - ((rd_T41 l0 x29_2).f0)))) = false := decide_eq_false c12
                 clear c12
                 have H' := Aside0.mk H
                 clear H
                 have p117 : 0 ≤ (x29_2 : Int) := of_decide_eq_true (by first | (with_reducible assumption) | assumption)
                 have q117 : x29_2 < (l0.length : Int) := of_decide_eq_true (by first | (with_reducible assumption) | assumption)
                 obtain ⟨ad117, e117, hx117_0, hx117_1⟩ := at_T41 HR0.out x29_2 p117 q117
                 cases e117
                 replace hx117_0 := (HB.out.cell (World.block_lt_of_cell? w _ hx117_0)).trans hx117_0
                 replace hx117_1 := (HB.out.cell (World.block_lt_of_cell? w _ hx117_1)).trans hx117_1
                 replace p117 := eq_true p117
                 replace q117 := eq_true q117
                 go_wp2_with (first | ((with_reducible refine gate_dst (N := 9) rfl ?_); refine box_event ?hg (N := 9) ?hd (cs := #[.int .i64 0, .int .i64 0]) (t := 41) ?hr ?_; (case hd => rfl); (case hg => rfl); (case hr => first | (go_simp; done) | (go_simp; rfl)); intro gb118 hg w15 hbox hb; have n0_ := Aside0.mk (below_step (by repeat (first | (with_reducible first | exact HB.out | apply below_alloc | apply pw_below_drewN | apply below_drew1) | exact HB.out)) hb); have n1_ := Aside0.mk (hbox); have n2_ := Aside0.mk ((by rw [hg]; exact (below_size (by repeat (first | (with_reducible first | exact HB.out | apply below_alloc | apply pw_below_drewN | apply below_drew1) | exact HB.out))) : w.heap.size ≤ gb118)); have n3_ := Aside0.mk ((by rw [hg]; exact (below_size (by repeat (first | (with_reducible first | exact HB.out | apply below_alloc | apply pw_below_drewN | apply below_drew1) | exact HB.out))) : w.heap.size ≤ gb118)); clear HB; have HB := n0_; have BK118 := n1_; have GW118 := n2_; have GE118 := n3_; clear n0_ n1_ n2_ n3_; clear hb hbox hg; have hcz16_0 : w15.cell? ⟨gb118, 0, none⟩ = some (.int .i64 0) := (blk_cell BK118.out 0).trans rfl; have hcz16_1 : w15.cell? ⟨gb118, 1, none⟩ = some (.int .i64 0) := (blk_cell BK118.out 1).trans rfl; have hfz16_0 := blk_frozen BK118.out 0; have hfz16_1 := blk_frozen BK118.out 1))
                 go_roundg k2
                 case measure => have := HJ4.out; have := HK2.out; omega
                 case rel => exact ⟨(wrap64 (x1_2 - (wrap64 (((rd_T41 l0 x29_2).f1) - ((rd_T41 l0 x29_2).f0))))), (wrap64 (x29_2 + 1)), (by first | rfl | (simp; done) | (simp [*]; done)), (by first | rfl | (simp; done) | (simp [*]; done)), H', ⟨by have := HJ4.out; have := HK2.out; omega⟩, ⟨by repeat (first | (with_reducible first | exact HB.out | apply below_alloc | apply pw_below_drewN | apply below_drew1 | refine below_set ?_ GE118.out) | exact HB.out)⟩⟩
             · rw [if_neg c11] at H
               exact absurd H (by simp)
           · rw [if_neg c10] at H
             exact absurd H (by simp)
         · rw [if_neg c9] at H
           have c9b0 : decide (x29_2 < (l0.length : Int)) = false := decide_eq_false c9
           clear c9
           simp only [Option.some.injEq, Prod.mk.injEq] at H
           obtain ⟨rfl, rfl⟩ := H
           go_wp2
           go_ret2
           exact ⟨by first | rfl | (simp [errW_none, errW_some] <;> rfl) | (simp [*, errW_none, errW_some] <;> rfl), by repeat (first | (with_reducible first | exact HB.out | apply below_alloc | apply pw_below_drewN | apply below_drew1) | exact HB.out)⟩
 · rw [if_neg c4] at H
   have c4b0 : (t116 == 0) = false := beq_eq_false_iff_ne.mpr c4
   have c4b1 : (t116 != 0) = true := bne_iff_ne.mpr c4
   simp only [Option.some.injEq, Prod.mk.injEq] at H
   obtain ⟨rfl, rfl⟩ := H
   go_enter Tryz.func17, Tryz.ntmps17
   go_wp2_with (first | ((with_reducible refine gate_callee (f := 15) rfl ?_); refine goesL_ (some 12) rfl rfl Tryz.func15 (by kernel_rfl) rfl #[.slice A0 l0.length c0] rfl (by (try simp only [List.map_toArray, List.map_cons, List.map_nil]); first | done | rfl | (simp only [List.length_drop, List.length_take]; rfl)) ?_; (with_reducible refine (span_Size.calls k _ _ l0 t115 t116 _ ?side1 ?side2 A3.out).mono ?_); (case side1 => repeat (first | exact HR0.out | (with_reducible refine Kd.C_alloc ?_ _) | (with_reducible refine Kd.C_drewN ?_ _) | (with_reducible refine Kd.C_drew ?_))); (case side2 => exact HC0.out); rintro e w17 ⟨rfl, hb⟩; refine ⟨_, rfl, ?_⟩; have n0_ := Aside0.mk (below_step (by repeat (first | (with_reducible first | exact HB.out | apply below_alloc | apply pw_below_drewN | apply below_drew1) | exact HB.out)) hb); clear HB; have HB := n0_; clear n0_; (try clear hb); (try clear hb2); (try clear hk); (try clear hi)))
   go_ret2
   exact ⟨by first | rfl | (simp [errW_none, errW_some] <;> rfl) | (simp [*, errW_none, errW_some] <;> rfl), by repeat (first | (with_reducible first | exact HB.out | apply below_alloc | apply pw_below_drewN | apply below_drew1) | exact HB.out)⟩
end Go.Proofs.YtmomcbhgggggnaaGreatDoor.Pr
end
section
namespace Go.Proofs.YtmomcbhgggggnaaGreatDoor.Pr
open Go.RowKit Go.Proofs.YtmomcbhgggggnaaGreatDoorW.PrintWords Go.Proofs.YtmomcbhgggggnaaGreatDoorW.PrintLast Go.Proofs.YtmomcbhgggggnaaGreatDoorW.PrintMore
set_option linter.unusedVariables false
set_option linter.unusedSimpArgs false
def hasR (l : List S41) (x : Int) : Bool × Int := if validS l = true then (l.any (hasS x), 0) else (false, 2)
theorem spanHas_ev (l : List S41) (x : Int) (hn : l.length ≤ 9223372036854775807) : Ev (fun k => span_Has.f k l x) (hasR l x) := by
  unfold span_Has.f hasR
  refine Ev.bind (spanValid_ev l hn) ?_
  cases validS l <;> exact Ev.now _
def rankStep (x acc : Int) (s : S41) : Int := if s.f0 < x then wrap64 (acc + wrap64 (min x s.f1 - s.f0)) else acc
theorem spanRank_loop (l : List S41) (x : Int) (hn : l.length ≤ 9223372036854775807) : ∀ (d i : Nat) (acc : Int), l.length - i = d → Ev (fun k => span_Rank.l0 k x acc l (l.length : Int) (i : Int)) ((l.drop i).foldl (rankStep x) acc, 0)
  | 0, i, acc, h => by
    rw [List.drop_eq_nil_of_le (by omega)]
    exact Ev.step (f := fun _ => some (acc, 0)) (fun k => by simp only [span_Rank.l0]; rw [if_neg (by omega)]) (Ev.now _)
  | d + 1, i, acc, h => by
    have hi : i < l.length := by omega
    rw [drop_cons l i hi, List.foldl_cons]
    refine Ev.step (f := fun k => span_Rank.l0 k x (rankStep x acc (l.getD i z41)) l (l.length : Int) ((i + 1 : Nat) : Int)) (fun k => ?_) (spanRank_loop l x hn d (i + 1) _ (by omega))
    simp only [span_Rank.l0]
    rw [if_pos (by omega), if_pos (by omega), if_pos (by omega), rd_nat, wrap_succ hi hn]
    unfold rankStep
    by_cases hc : (l.getD i z41).f0 < x
    · rw [if_pos (by omega), if_pos hc, mn_eq]
    · rw [if_neg (by omega), if_neg hc]
def rankR (l : List S41) (x : Int) : Int × Int := if validS l = true then (l.foldl (rankStep x) 0, 0) else (0, 2)
theorem spanRank_ev (l : List S41) (x : Int) (hn : l.length ≤ 9223372036854775807) : Ev (fun k => span_Rank.f k l x) (rankR l x) := by
  unfold span_Rank.f rankR
  refine Ev.bind (spanValid_ev l hn) ?_
  cases validS l with
  | true => simpa using spanRank_loop l x hn _ 0 0 rfl
  | false => exact Ev.now _
theorem spanSize_ev (l : List S41) (hn : l.length ≤ 9223372036854775807) : Ev (fun k => span_Size.f k l) (rankR l 1099511627776) := by
  unfold span_Size.f
  exact Ev.bind (spanRank_ev l _ hn) (Ev.now _)
/-- Ascending from lo on, with gaps, below the bound. -/
def Asc (lo : Int) : List S41 → Prop
  | [] => True
  | s :: t => lo ≤ s.f0 ∧ s.f0 < s.f1 ∧ s.f1 ≤ 1099511627776 ∧ Asc (s.f1 + 1) t
def szS (l : List S41) : Int := (l.map (fun s => s.f1 - s.f0)).sum
theorem asc_of_valid (l : List S41) : ∀ (d i : Nat), l.length - i = d → validFrom l i = true → Asc (if i = 0 then -1099511627776 else (l.getD (i - 1) z41).f1 + 1) (l.drop i)
  | 0, i, h, _ => by rw [List.drop_eq_nil_of_le (by omega)]; trivial
  | d + 1, i, h, hv => by
    have hi : i < l.length := by omega
    rw [validFrom_step l i hi, Bool.and_eq_true] at hv
    have ih := asc_of_valid l d (i + 1) (by omega) hv.2
    rw [if_neg (by omega), Nat.add_sub_cancel] at ih
    have h1 := hv.1
    unfold okAt at h1
    rw [Bool.and_eq_true, goodS_iff] at h1
    rw [drop_cons l i hi]
    refine ⟨?_, h1.1.2.1, h1.1.2.2, ih⟩
    by_cases h0 : i = 0
    · rw [if_pos h0]; exact h1.1.1
    · rw [if_neg h0]
      have := h1.2
      have e0 : (i == 0) = false := by simpa using h0
      rw [e0, Bool.false_or] at this
      have := of_decide_eq_true this
      omega
theorem asc_valid {l : List S41} (h : validS l = true) : l.length ≤ 128 ∧ Asc (-1099511627776) l := by
  unfold validS at h
  rw [Bool.and_eq_true] at h
  refine ⟨by simpa using h.1, ?_⟩
  have := asc_of_valid l _ 0 rfl h.2
  simpa using this
theorem asc_sz : ∀ (l : List S41) (lo : Int), Asc lo l → lo ≤ 1099511627777 → 0 ≤ szS l ∧ szS l ≤ 1099511627777 - lo
  | [], lo, _, h => by simp [szS]; omega
  | s :: t, lo, ⟨h1, h2, h3, h4⟩, h => by
    have ih := asc_sz t (s.f1 + 1) h4 (by omega)
    have e : szS (s :: t) = (s.f1 - s.f0) + szS t := by simp [szS]
    omega
theorem size_valid : ∀ (l : List S41) (lo acc : Int), Asc lo l → -1099511627776 ≤ lo → 0 ≤ acc → acc + szS l ≤ 4611686018427387904 → l.foldl (rankStep 1099511627776) acc = acc + szS l
  | [], lo, acc, _, _, _, _ => by simp [szS]
  | s :: t, lo, acc, ⟨h1, h2, h3, h4⟩, h, ha, hb => by
    have e : szS (s :: t) = (s.f1 - s.f0) + szS t := by simp [szS]
    have ht := asc_sz t (s.f1 + 1) h4 (by omega)
    rw [List.foldl_cons]
    have e2 : rankStep 1099511627776 acc s = acc + (s.f1 - s.f0) := by
      unfold rankStep
      rw [if_pos (by omega), Int.min_eq_right h3]
      unfold wrap64
      omega
    rw [e2, size_valid t (s.f1 + 1) _ h4 (by omega) (by omega) (by omega), e]
    omega
theorem size_eq {l : List S41} (h : validS l = true) : l.foldl (rankStep 1099511627776) 0 = szS l ∧ 0 ≤ szS l ∧ szS l ≤ 2199023255553 := by
  have ha := (asc_valid h).2
  have hs := asc_sz l _ ha (by omega)
  refine ⟨?_, by omega, by omega⟩
  have := size_valid l _ 0 ha (by omega) (by omega) (by omega)
  omega
def nthS : List S41 → Int → Option Int
  | [], _ => none
  | s :: t, i => if i < s.f1 - s.f0 then some (s.f0 + i) else nthS t (i - (s.f1 - s.f0))
theorem nthS_none : ∀ (l : List S41) (lo i : Int), Asc lo l → szS l ≤ i → nthS l i = none
  | [], _, _, _, _ => rfl
  | s :: t, lo, i, ⟨h1, h2, h3, h4⟩, h => by
    have e : szS (s :: t) = (s.f1 - s.f0) + szS t := by simp [szS]
    have ht : 0 ≤ szS t := (asc_sz t (s.f1 + 1) h4 (by omega)).1
    rw [nthS, if_neg (by omega)]
    exact nthS_none t _ _ h4 (by omega)
def nthRes (r : Option Int) : Int × Int := match r with
  | some v => (v, 0)
  | none => (0, 6)
theorem spanNth_loop (l : List S41) (hn : l.length ≤ 9223372036854775807) : ∀ (d j : Nat) (i lo : Int), l.length - j = d → Asc lo (l.drop j) → -1099511627776 ≤ lo → 0 ≤ i → i ≤ 9223372036854775807 → Ev (fun k => span_Nth.l0 k i l (l.length : Int) (j : Int)) (nthRes (nthS (l.drop j) i))
  | 0, j, i, lo, h, _, _, _, _ => by
    rw [List.drop_eq_nil_of_le (by omega)]
    exact Ev.step (f := fun _ => some (0, 6)) (fun k => by simp only [span_Nth.l0]; rw [if_neg (by omega)]) (Ev.now _)
  | d + 1, j, i, lo, h, ha, hlo, h0, h9 => by
    have hj : j < l.length := by omega
    rw [drop_cons l j hj] at ha ⊢
    obtain ⟨h1, h2, h3, h4⟩ := ha
    have w1 : wrap64 ((l.getD j z41).f1 - (l.getD j z41).f0) = (l.getD j z41).f1 - (l.getD j z41).f0 := by unfold wrap64; omega
    have w2 : wrap64 (i - ((l.getD j z41).f1 - (l.getD j z41).f0)) = i - ((l.getD j z41).f1 - (l.getD j z41).f0) := by unfold wrap64; omega
    rw [nthS]
    by_cases hc : i < (l.getD j z41).f1 - (l.getD j z41).f0
    · rw [if_pos hc]
      have w3 : wrap64 ((l.getD j z41).f0 + i) = (l.getD j z41).f0 + i := by unfold wrap64; omega
      refine Ev.step (f := fun _ => some ((l.getD j z41).f0 + i, 0)) (fun k => ?_) (Ev.now _)
      simp only [span_Nth.l0]
      rw [if_pos (by omega), if_pos (by omega), if_pos (by omega), rd_nat, w1, if_pos hc, w3]
    · rw [if_neg hc]
      refine Ev.step (f := fun k => span_Nth.l0 k (i - ((l.getD j z41).f1 - (l.getD j z41).f0)) l (l.length : Int) ((j + 1 : Nat) : Int)) (fun k => ?_) (spanNth_loop l hn d (j + 1) _ _ (by omega) h4 (by omega) (by omega) (by omega))
      simp only [span_Nth.l0]
      rw [if_pos (by omega), if_pos (by omega), if_pos (by omega), rd_nat, w1, if_neg hc, w2, wrap_succ hj hn]
def nthR (l : List S41) (i : Int) : Int × Int := if validS l = true then (if i < 0 then (0, 6) else nthRes (nthS l i)) else (0, 2)
theorem spanNth_ev (l : List S41) (i : Int) (hn : l.length ≤ 9223372036854775807) (hi : i ≤ 9223372036854775807) : Ev (fun k => span_Nth.f k l i) (nthR l i) := by
  unfold span_Nth.f nthR
  refine Ev.bind (spanSize_ev l hn) ?_
  unfold rankR
  cases hv : validS l with
  | false => exact Ev.now _
  | true =>
    have ha := (asc_valid hv).2
    have hs := size_eq hv
    simp only [if_true, ↓reduceIte]
    by_cases h0 : i < 0
    · simp only [h0, if_true, ↓reduceIte]
      exact Ev.step (f := fun _ => some (0, 6)) (fun k => by simp only [span_Nth.j0]; simp) (Ev.now _)
    · simp only [h0, if_false, ↓reduceIte]
      rw [hs.1]
      by_cases hc : i ≥ szS l
      · rw [nthS_none l _ i ha hc]
        exact Ev.step (f := fun _ => some (0, 6)) (fun k => by simp only [span_Nth.j0]; simp [hc]) (Ev.now _)
      · refine Ev.step (f := fun k => span_Nth.l0 k i l (l.length : Int) 0) (fun k => by simp only [span_Nth.j0]; simp [hc]) ?_
        simpa using spanNth_loop l hn _ 0 i _ rfl (by simpa using ha) (by omega) (by omega) hi
def memS (l : List S41) (x : Int) : Bool := l.any (hasS x)
theorem memS_cons (s : S41) (t : List S41) (x : Int) : memS (s :: t) x = (hasS x s || memS t x) := rfl
theorem memS_perm {a b : List S41} (h : a.Perm b) (x : Int) : memS a x = memS b x := by
  unfold memS
  rw [Bool.eq_iff_iff, List.any_eq_true, List.any_eq_true]
  exact ⟨fun ⟨s, hs, hp⟩ => ⟨s, h.mem_iff.1 hs, hp⟩, fun ⟨s, hs, hp⟩ => ⟨s, h.mem_iff.2 hs, hp⟩⟩
theorem hasS_iff (x : Int) (s : S41) : hasS x s = true ↔ s.f0 ≤ x ∧ x < s.f1 := by unfold hasS; simp
theorem memS_iff (l : List S41) (x : Int) : memS l x = true ↔ ∃ s ∈ l, s.f0 ≤ x ∧ x < s.f1 := by
  unfold memS
  rw [List.any_eq_true]
  simp only [hasS_iff]
theorem asc_low : ∀ (l : List S41) (lo x : Int), Asc lo l → memS l x = true → lo ≤ x
  | [], _, _, _, h => by simp [memS] at h
  | s :: t, lo, x, ⟨h1, h2, h3, h4⟩, h => by
    rw [memS_cons, Bool.or_eq_true, hasS_iff] at h
    rcases h with h | h
    · omega
    · have := asc_low t _ x h4 h
      omega
/-- AN ASCENDING LIST IS KNOWN BY ITS NUMBERS. -/
theorem canon : ∀ (a b : List S41) (lo lo' : Int), Asc lo a → Asc lo' b → (∀ x, memS a x = memS b x) → a = b
  | [], [], _, _, _, _, _ => rfl
  | [], s :: t, _, _, _, ⟨_, h2, _, _⟩, h => by
    have := h s.f0
    rw [memS_cons, show hasS s.f0 s = true from (hasS_iff _ _).2 ⟨Int.le_refl _, h2⟩] at this
    simp [memS] at this
  | s :: t, [], _, _, ⟨_, h2, _, _⟩, _, h => by
    have := h s.f0
    rw [memS_cons, show hasS s.f0 s = true from (hasS_iff _ _).2 ⟨Int.le_refl _, h2⟩] at this
    simp [memS] at this
  | s :: t, s' :: t', lo, lo', ha, hb, h => by
    have ha' : Asc s.f0 (s :: t) := ⟨Int.le_refl _, ha.2⟩
    have hb' : Asc s'.f0 (s' :: t') := ⟨Int.le_refl _, hb.2⟩
    have m0 : memS (s :: t) s.f0 = true := by rw [memS_cons, (hasS_iff s.f0 s).2 ⟨Int.le_refl _, ha.2.1⟩]; rfl
    have m0' : memS (s' :: t') s'.f0 = true := by rw [memS_cons, (hasS_iff s'.f0 s').2 ⟨Int.le_refl _, hb.2.1⟩]; rfl
    have e0 : s.f0 = s'.f0 := by
      have h1 := asc_low _ _ _ hb' ((h s.f0).symm.trans m0)
      have h2 := asc_low _ _ _ ha' ((h s'.f0).trans m0')
      omega
    have nt : ∀ x, x ≤ s.f1 → memS t x = false := fun x hx => by
      rw [← Bool.not_eq_true]
      intro hc
      have := asc_low _ _ _ ha.2.2.2 hc
      omega
    have nt' : ∀ x, x ≤ s'.f1 → memS t' x = false := fun x hx => by
      rw [← Bool.not_eq_true]
      intro hc
      have := asc_low _ _ _ hb.2.2.2 hc
      omega
    have e1 : s.f1 = s'.f1 := by
      rcases Int.lt_trichotomy s.f1 s'.f1 with hlt | heq | hgt
      · have := h s.f1
        rw [memS_cons, memS_cons, nt s.f1 (Int.le_refl _), (hasS_iff s.f1 s').2 ⟨by have := ha.2.1; omega, hlt⟩] at this
        simp [hasS] at this
      · exact heq
      · have := h s'.f1
        rw [memS_cons, memS_cons, nt' s'.f1 (Int.le_refl _), (hasS_iff s'.f1 s).2 ⟨by have := hb.2.1; omega, hgt⟩] at this
        simp [hasS] at this
    have es : s = s' := by
      cases s
      cases s'
      simp at e0 e1
      subst e0 e1
      rfl
    subst es
    rw [canon t t' _ _ ha.2.2.2 hb.2.2.2 (fun x => by
      rcases Int.lt_or_le s.f1 x with hx | hx
      · have := h x
        rw [memS_cons, memS_cons, show hasS x s = false by rw [← Bool.not_eq_true, hasS_iff]; omega] at this
        simpa using this
      · rw [nt x hx, nt' x hx])]
def jn : List S41 → Option S41 → List S41
  | [], cur => cur.toList
  | s :: t, none => jn t (some s)
  | s :: t, some c => if s.f0 ≤ c.f1 then jn t (some ⟨c.f0, max c.f1 s.f1⟩) else c :: jn t (some s)
theorem jn_spec : ∀ (l : List S41) (cur : Option S41) (lo : Int), l.Pairwise (fun a b => a.f0 ≤ b.f0) → (∀ s ∈ l, lo ≤ s.f0 ∧ s.f0 < s.f1 ∧ s.f1 ≤ 1099511627776) →
    (∀ c, cur = some c → lo ≤ c.f0 ∧ c.f0 < c.f1 ∧ c.f1 ≤ 1099511627776 ∧ ∀ s ∈ l, c.f0 ≤ s.f0) → Asc lo (jn l cur) ∧ ∀ x, memS (jn l cur) x = (memS cur.toList x || memS l x)
  | [], none, lo, _, _, _ => ⟨trivial, fun x => by simp [jn, memS]⟩
  | [], some c, lo, _, _, hc => by
    obtain ⟨h1, h2, h3, _⟩ := hc c rfl
    exact ⟨⟨h1, h2, h3, trivial⟩, fun x => by simp [jn, memS]⟩
  | s :: t, none, lo, hp, hl, _ => by
    rw [List.pairwise_cons] at hp
    obtain ⟨h1, h2, h3⟩ := hl s (List.mem_cons_self)
    obtain ⟨ha, hm⟩ := jn_spec t (some s) lo hp.2 (fun x hx => hl x (List.mem_cons_of_mem _ hx)) (fun c hc => by
      injection hc with hc
      subst hc
      exact ⟨h1, h2, h3, hp.1⟩)
    exact ⟨ha, fun x => by rw [jn, hm x]; simp [memS]⟩
  | s :: t, some c, lo, hp, hl, hc => by
    rw [List.pairwise_cons] at hp
    obtain ⟨h1, h2, h3⟩ := hl s (List.mem_cons_self)
    obtain ⟨c1, c2, c3, c4⟩ := hc c rfl
    have c5 := c4 s (List.mem_cons_self)
    rw [jn]
    by_cases hle : s.f0 ≤ c.f1
    · rw [if_pos hle]
      obtain ⟨ha, hm⟩ := jn_spec t (some ⟨c.f0, max c.f1 s.f1⟩) lo hp.2 (fun x hx => hl x (List.mem_cons_of_mem _ hx)) (fun d hd => by
        injection hd with hd
        subst hd
        exact ⟨c1, by simp; omega, by simp; omega, fun x hx => c4 x (List.mem_cons_of_mem _ hx)⟩)
      refine ⟨ha, fun x => ?_⟩
      rw [hm x, memS_cons, ← Bool.or_assoc]
      congr 1
      simp only [Option.toList_some, memS, List.any_cons, List.any_nil, Bool.or_false]
      rw [Bool.eq_iff_iff, Bool.or_eq_true, hasS_iff, hasS_iff, hasS_iff]
      simp only
      omega
    · rw [if_neg hle]
      obtain ⟨ha, hm⟩ := jn_spec t (some s) (c.f1 + 1) hp.2 (fun x hx => by
        have := hl x (List.mem_cons_of_mem _ hx)
        have := hp.1 x hx
        exact ⟨by omega, by omega, by omega⟩) (fun d hd => by
        injection hd with hd
        subst hd
        exact ⟨by omega, h2, h3, hp.1⟩)
      exact ⟨⟨c1, c2, c3, ha⟩, fun x => by rw [memS_cons, hm x]; simp [memS]⟩
theorem jn_len : ∀ (l : List S41) (cur : Option S41), (jn l cur).length ≤ l.length + cur.toList.length
  | [], cur => by simp [jn]
  | s :: t, none => by have := jn_len t (some s); simp [jn] at *; omega
  | s :: t, some c => by
    rw [jn]
    by_cases hle : s.f0 ≤ c.f1
    · rw [if_pos hle]; have := jn_len t (some ⟨c.f0, max c.f1 s.f1⟩); simp at *; omega
    · rw [if_neg hle]; have := jn_len t (some s); simp at *; omega
theorem rd_last (p : List S41) (c : S41) : rd_T41 (p ++ [c]) ((p.length : Nat) : Int) = c := by
  rw [rd_nat]
  simp [List.getD_eq_getElem?_getD]
theorem set_last (p : List S41) (c d : S41) : (p ++ [c]).set p.length d = p ++ [d] := by
  rw [List.set_append_right _ _ (Nat.le_refl _)]
  simp
theorem len_last (p : List S41) (c : S41) (h : p.length < 4611686018427387904) : wrap64 (((p ++ [c]).length : Int) - 1) = ((p.length : Nat) : Int) := by
  rw [List.length_append, List.length_singleton]
  unfold wrap64
  omega
theorem joined_loop (l : List S41) (hn : l.length ≤ 1000000) : ∀ (d i : Nat) (p : List S41) (c : S41), l.length - i = d → i ≤ l.length → p.length + 1 ≤ i →
    Ev (fun k => span_joined.l0 k (p ++ [c]) l (l.length : Int) (i : Int)) (p ++ jn (l.drop i) (some c))
  | 0, i, p, c, h, _, _ => by
    rw [List.drop_eq_nil_of_le (by omega)]
    exact Ev.step (f := fun _ => some (p ++ [c])) (fun k => by simp only [span_joined.l0]; rw [if_neg (by omega)]) (Ev.now _)
  | d + 1, i, p, c, h, hi', hp => by
    have hi : i < l.length := by omega
    have hw := len_last p c (by omega)
    have hlen : (((p ++ [c]).length : Nat) : Int) = (p.length : Int) + 1 := by simp
    rw [drop_cons l i hi, jn]
    refine Ev.step (f := fun k => span_joined.j1 k (p ++ [c]) ((p ++ [c]).length : Int) l (l.length : Int) (i : Int) (decide ((l.getD i z41).f0 ≤ c.f1)) (l.getD i z41).f0 (l.getD i z41).f1) (fun k => ?_) ?_
    · simp only [span_joined.l0]
      rw [if_pos (by omega), if_pos (by omega), if_pos (by omega), rd_nat, if_pos (by omega), hw, if_pos (by omega), if_pos (by omega), rd_last]
    · by_cases hle : (l.getD i z41).f0 ≤ c.f1
      · rw [if_pos hle, decide_eq_true hle]
        refine Ev.step (f := fun k => span_joined.l0 k (p ++ [⟨c.f0, max c.f1 (l.getD i z41).f1⟩]) l (l.length : Int) ((i + 1 : Nat) : Int)) (fun k => ?_) (joined_loop l hn d (i + 1) p _ (by omega) (by omega) (by omega))
        simp only [span_joined.j1]
        rw [if_pos trivial, hw, if_pos (by omega), if_pos (by omega), rd_last, wrap_succ hi (by omega), Int.toNat_natCast, set_last, mx_eq]
      · rw [if_neg hle, decide_eq_false hle]
        have := joined_loop l hn d (i + 1) (p ++ [c]) (l.getD i z41) (by omega) (by omega) (by simp; omega)
        rw [show p ++ c :: jn (l.drop (i + 1)) (some (l.getD i z41)) = (p ++ [c]) ++ jn (l.drop (i + 1)) (some (l.getD i z41)) by simp]
        refine Ev.step (fun k => ?_) this
        simp only [span_joined.j1]
        rw [if_neg (by simp), if_pos (by simp; omega), wrap_succ hi (by omega)]
theorem joined_ev (l : List S41) (hn : l.length ≤ 1000000) : Ev (fun k => span_joined.f k l) (jn l none) := by
  unfold span_joined.f
  rcases l with _ | ⟨s, t⟩
  · exact Ev.step (f := fun _ => some []) (fun k => by simp only [span_joined.l0]; simp) (Ev.now _)
  · refine Ev.step (f := fun k => span_joined.j1 k [] 0 (s :: t) ((s :: t).length : Int) 0 false s.f0 s.f1) (fun k => ?_) ?_
    · simp only [span_joined.l0]
      rw [if_pos (by simp), if_pos (by omega), if_pos (by simp)]
      simp [rd_T41]
    · have := joined_loop (s :: t) hn t.length 1 [] s (by simp) (by simp) (by simp)
      refine Ev.step (fun k => ?_) this
      simp only [span_joined.j1]
      rw [if_neg (by simp), if_pos (by simp)]
      simp [wrap64]
def putRest (x : Int) : List Int → Bool → List Int
  | [], done => if done = true then [] else [x]
  | y :: t, done => if done = false ∧ x ≤ y then (if y = x then x :: putRest x t true else x :: y :: putRest x t true) else (if y = x then putRest x t done else y :: putRest x t done)
def putL (l : List Int) (x : Int) : List Int := putRest x l false
theorem putRest_done (x : Int) : ∀ l : List Int, (∀ y ∈ l, x < y) → putRest x l true = l
  | [], _ => rfl
  | y :: t, h => by
    have := h y (List.mem_cons_self)
    rw [putRest, if_neg (by simp), if_neg (by omega), putRest_done x t (fun z hz => h z (List.mem_cons_of_mem _ hz))]
theorem putL_spec (x : Int) : ∀ l : List Int, l.Pairwise (· < ·) → (putL l x).Pairwise (· < ·) ∧ (∀ z, z ∈ putL l x ↔ z = x ∨ z ∈ l) ∧ (putL l x).length ≤ l.length + 1
  | [], _ => by simp [putL, putRest]
  | y :: t, h => by
    have h0 := h
    rw [List.pairwise_cons] at h
    have ih := putL_spec x t h.2
    unfold putL at ih ⊢
    rw [putRest]
    by_cases hle : x ≤ y
    · rw [if_pos ⟨rfl, hle⟩]
      have hgt : ∀ z ∈ t, x < z := fun z hz => by have := h.1 z hz; omega
      rw [putRest_done x t hgt]
      by_cases he : y = x
      · subst he
        rw [if_pos rfl]
        exact ⟨h0, fun z => by simp, by simp⟩
      · rw [if_neg he]
        refine ⟨?_, fun z => by simp, by simp⟩
        rw [List.pairwise_cons]
        refine ⟨fun z hz => ?_, h0⟩
        rcases List.mem_cons.1 hz with rfl | hz
        · omega
        · exact hgt z hz
    · rw [if_neg (fun hc => hle hc.2), if_neg (by omega)]
      refine ⟨?_, fun z => ?_, ?_⟩
      · rw [List.pairwise_cons]
        refine ⟨fun z hz => ?_, ih.1⟩
        rcases (ih.2.1 z).1 hz with rfl | hz
        · omega
        · exact h.1 z hz
      · rw [List.mem_cons, ih.2.1 z, List.mem_cons]
        exact ⟨fun h => h.elim (fun h => .inr (.inl h)) (fun h => h.elim .inl (fun h => .inr (.inr h))), fun h => h.elim (fun h => .inr (.inl h)) (fun h => h.elim .inl (fun h => .inr (.inr h)))⟩
      · have := ih.2.2
        simp
        omega
theorem dropI (l : List Int) (i : Nat) (h : i < l.length) : l.drop i = rd l (i : Int) :: l.drop (i + 1) := by
  rw [List.drop_eq_getElem_cons h]
  unfold rd
  simp [List.getD_eq_getElem?_getD, List.getElem?_eq_getElem h]
def endsL (E : List Int) (l : List S41) : List Int := l.foldl (fun E s => putL (putL E s.f0) s.f1) E
theorem endsL_spec : ∀ (l : List S41) (E : List Int), E.Pairwise (· < ·) → (endsL E l).Pairwise (· < ·) ∧ (∀ z, z ∈ endsL E l ↔ z ∈ E ∨ ∃ s ∈ l, z = s.f0 ∨ z = s.f1) ∧ (endsL E l).length ≤ E.length + 2 * l.length
  | [], E, h => by simp [endsL, h]
  | s :: t, E, h => by
    obtain ⟨p1, m1, n1⟩ := putL_spec s.f0 E h
    obtain ⟨p2, m2, n2⟩ := putL_spec s.f1 _ p1
    obtain ⟨p3, m3, n3⟩ := endsL_spec t _ p2
    refine ⟨p3, fun z => ?_, ?_⟩
    · show z ∈ endsL _ t ↔ _
      rw [m3 z, m2 z, m1 z]
      simp only [List.mem_cons, exists_eq_or_imp]
      constructor
      · rintro ((h | h | h) | h)
        · exact .inr (.inl (.inr h))
        · exact .inr (.inl (.inl h))
        · exact .inl h
        · exact .inr (.inr h)
      · rintro (h | (h | h) | h)
        · exact .inl (.inr (.inr h))
        · exact .inl (.inr (.inl h))
        · exact .inl (.inl h)
        · exact .inr h
    · show (endsL _ t).length ≤ _
      simp
      omega
def gen (p : Int → Bool) : List Int → Option S41 → List S41
  | e :: e' :: t, none => if p e = true then gen p (e' :: t) (some ⟨e, e'⟩) else gen p (e' :: t) none
  | e :: e' :: t, some c => if p e = true then (if c.f1 = e then gen p (e' :: t) (some ⟨c.f0, e'⟩) else c :: gen p (e' :: t) (some ⟨e, e'⟩)) else gen p (e' :: t) (some c)
  | _, cur => cur.toList
def inP (p : Int → Bool) : List Int → Int → Bool
  | e :: e' :: t, x => (p e && (decide (e ≤ x) && decide (x < e'))) || inP p (e' :: t) x
  | _, _ => false
theorem inP_low (p : Int → Bool) : ∀ (E : List Int) (x : Int), (∀ e ∈ E, x < e) → inP p E x = false
  | [], _, _ => rfl
  | [_], _, _ => rfl
  | e :: e' :: t, x, h => by
    rw [inP, inP_low p (e' :: t) x (fun z hz => h z (List.mem_cons_of_mem _ hz))]
    have := h e (List.mem_cons_self)
    rw [show decide (e ≤ x) = false by simp; omega]
    simp
theorem gen_spec (p : Int → Bool) : ∀ (E : List Int) (cur : Option S41) (lo : Int), E.Pairwise (· < ·) → (∀ e ∈ E, lo ≤ e ∧ e ≤ 1099511627776) →
    (∀ c, cur = some c → lo ≤ c.f0 ∧ c.f0 < c.f1 ∧ c.f1 ≤ 1099511627776 ∧ ∀ e ∈ E, c.f1 ≤ e) → Asc lo (gen p E cur) ∧ ∀ x, memS (gen p E cur) x = (memS cur.toList x || inP p E x)
  | [], cur, lo, _, _, hc => by
    cases cur with
    | none => exact ⟨trivial, fun x => by simp [gen, inP, memS]⟩
    | some c => obtain ⟨h1, h2, h3, _⟩ := hc c rfl; exact ⟨⟨h1, h2, h3, trivial⟩, fun x => by simp [gen, inP, memS]⟩
  | [e], cur, lo, _, _, hc => by
    cases cur with
    | none => exact ⟨trivial, fun x => by simp [gen, inP, memS]⟩
    | some c => obtain ⟨h1, h2, h3, _⟩ := hc c rfl; exact ⟨⟨h1, h2, h3, trivial⟩, fun x => by simp [gen, inP, memS]⟩
  | e :: e' :: t, none, lo, hp, hE, _ => by
    rw [List.pairwise_cons] at hp
    have hee := hp.1 e' (List.mem_cons_self)
    have he := hE e (List.mem_cons_self)
    have he' := hE e' (List.mem_cons_of_mem _ List.mem_cons_self)
    have hE' := fun z hz => hE z (List.mem_cons_of_mem _ hz)
    rw [gen]
    by_cases hpe : p e = true
    · rw [if_pos hpe]
      obtain ⟨ha, hm⟩ := gen_spec p (e' :: t) (some ⟨e, e'⟩) lo hp.2 hE' (fun c hc => by
        injection hc with hc
        subst hc
        refine ⟨he.1, hee, he'.2, fun z hz => ?_⟩
        rcases List.mem_cons.1 hz with rfl | hz
        · exact Int.le_refl _
        · have := (List.pairwise_cons.1 hp.2).1 z hz
          exact Int.le_of_lt this)
      refine ⟨ha, fun x => ?_⟩
      rw [hm x, inP, hpe]
      simp [memS, hasS]
    · rw [if_neg hpe]
      obtain ⟨ha, hm⟩ := gen_spec p (e' :: t) none lo hp.2 hE' (fun c hc => by cases hc)
      refine ⟨ha, fun x => ?_⟩
      rw [hm x, inP, Bool.eq_false_iff.2 hpe]
      simp
  | e :: e' :: t, some c, lo, hp, hE, hc => by
    rw [List.pairwise_cons] at hp
    have hee := hp.1 e' (List.mem_cons_self)
    have he := hE e (List.mem_cons_self)
    have he' := hE e' (List.mem_cons_of_mem _ List.mem_cons_self)
    have hE' := fun z hz => hE z (List.mem_cons_of_mem _ hz)
    have hle' : ∀ z ∈ e' :: t, e' ≤ z := fun z hz => by
      rcases List.mem_cons.1 hz with rfl | hz
      · exact Int.le_refl _
      · have := (List.pairwise_cons.1 hp.2).1 z hz
        exact Int.le_of_lt this
    obtain ⟨c1, c2, c3, c4⟩ := hc c rfl
    have c5 := c4 e (List.mem_cons_self)
    rw [gen]
    by_cases hpe : p e = true
    · rw [if_pos hpe]
      by_cases hce : c.f1 = e
      · rw [if_pos hce]
        obtain ⟨ha, hm⟩ := gen_spec p (e' :: t) (some ⟨c.f0, e'⟩) lo hp.2 hE' (fun d hd => by
          injection hd with hd
          subst hd
          exact ⟨c1, by simp; omega, he'.2, hle'⟩)
        refine ⟨ha, fun x => ?_⟩
        rw [hm x, inP, hpe, ← Bool.or_assoc]
        congr 1
        simp only [Option.toList_some, memS, List.any_cons, List.any_nil, Bool.or_false, hasS, Bool.true_and]
        rw [Bool.eq_iff_iff]
        simp
        omega
      · rw [if_neg hce]
        obtain ⟨ha, hm⟩ := gen_spec p (e' :: t) (some ⟨e, e'⟩) (c.f1 + 1) hp.2 (fun z hz => by
          have := hle' z hz
          exact ⟨by omega, (hE' z hz).2⟩) (fun d hd => by
          injection hd with hd
          subst hd
          exact ⟨by simp; omega, hee, he'.2, hle'⟩)
        refine ⟨⟨c1, c2, c3, ha⟩, fun x => ?_⟩
        rw [memS_cons, hm x, inP, hpe]
        simp [memS, hasS]
    · rw [if_neg hpe]
      obtain ⟨ha, hm⟩ := gen_spec p (e' :: t) (some c) lo hp.2 hE' (fun d hd => by
        injection hd with hd
        subst hd
        exact ⟨c1, c2, c3, fun z hz => c4 z (List.mem_cons_of_mem _ hz)⟩)
      refine ⟨ha, fun x => ?_⟩
      rw [hm x, inP, Bool.eq_false_iff.2 hpe]
      simp
/-- Between two ends that follow one another all numbers are alike. -/
theorem floor_mem (l : List S41) (e e' x : Int) (h : ∀ s ∈ l, (s.f0 ≤ e ∨ e' ≤ s.f0) ∧ (s.f1 ≤ e ∨ e' ≤ s.f1)) (h1 : e ≤ x) (h2 : x < e') : memS l x = memS l e := by
  rw [Bool.eq_iff_iff, memS_iff, memS_iff]
  constructor
  · rintro ⟨s, hs, hx⟩
    have := h s hs
    exact ⟨s, hs, by omega⟩
  · rintro ⟨s, hs, hx⟩
    have := h s hs
    exact ⟨s, hs, by omega⟩
theorem inP_floor (q : Bool → Bool → Bool) (hq : q false false = false) (a b : List S41) : ∀ (E : List Int), E.Pairwise (· < ·) → E ≠ [] →
    (∀ s, s ∈ a ∨ s ∈ b → (s.f0 ∈ E ∨ ∀ z ∈ E, s.f0 ≤ z) ∧ (s.f1 ∈ E ∨ ∀ z ∈ E, s.f1 ≤ z)) → ∀ x, (∃ e ∈ E.head?, e ≤ x) → inP (fun e => q (memS a e) (memS b e)) E x = q (memS a x) (memS b x)
  | [], _, h, _, _, _ => absurd rfl h
  | [e], _, _, h, x, ⟨e0, he0, hx⟩ => by
    simp at he0
    subst he0
    have key : ∀ l : List S41, (∀ s ∈ l, s ∈ a ∨ s ∈ b) → memS l x = false := fun l hl => by
      rw [← Bool.not_eq_true, memS_iff]
      rintro ⟨s, hs, hsx⟩
      have := (h s (hl s hs)).2
      rcases this with this | this
      · simp at this; omega
      · have := this e (List.mem_cons_self); omega
    rw [key a (fun s hs => .inl hs), key b (fun s hs => .inr hs), hq]
    rfl
  | e :: e' :: t, hp, _, h, x, ⟨e0, he0, hx⟩ => by
    simp at he0
    subst he0
    rw [List.pairwise_cons] at hp
    have hlow : ∀ z ∈ e' :: t, e' ≤ z := fun z hz => by
      rcases List.mem_cons.1 hz with rfl | hz
      · exact Int.le_refl _
      · have := (List.pairwise_cons.1 hp.2).1 z hz
        exact Int.le_of_lt this
    have hee := hp.1 e' (List.mem_cons_self)
    have side : ∀ v : Int, (v ∈ e :: e' :: t ∨ ∀ z ∈ e :: e' :: t, v ≤ z) → v ≤ e ∨ e' ≤ v := fun v hv => by
      rcases hv with hv | hv
      · rcases List.mem_cons.1 hv with rfl | hv
        · exact .inl (Int.le_refl _)
        · exact .inr (hlow v hv)
      · exact .inl (hv e (List.mem_cons_self))
    rw [inP]
    by_cases hx' : x < e'
    · rw [inP_low _ (e' :: t) x (fun z hz => by have := hlow z hz; omega), decide_eq_true hx, decide_eq_true hx']
      rw [floor_mem a e e' x (fun s hs => ⟨side _ (h s (.inl hs)).1, side _ (h s (.inl hs)).2⟩) hx hx', floor_mem b e e' x (fun s hs => ⟨side _ (h s (.inr hs)).1, side _ (h s (.inr hs)).2⟩) hx hx']
      simp
    · rw [decide_eq_false hx', Bool.and_false, Bool.and_false, Bool.false_or]
      refine inP_floor q hq a b (e' :: t) hp.2 (by simp) (fun s hs => ?_) x ⟨e', by simp, by omega⟩
      have step : ∀ v : Int, (v ∈ e :: e' :: t ∨ ∀ z ∈ e :: e' :: t, v ≤ z) → v ∈ e' :: t ∨ ∀ z ∈ e' :: t, v ≤ z := fun v hv => by
        rcases hv with hv | hv
        · rcases List.mem_cons.1 hv with rfl | hv
          · exact .inr (fun z hz => Int.le_of_lt (hp.1 z hz))
          · exact .inl hv
        · exact .inr (fun z hz => hv z (List.mem_cons_of_mem _ hz))
      exact ⟨step _ (h s hs).1, step _ (h s hs).2⟩
/-- WHAT THE PIECES COME TO. -/
theorem inP_ends (q : Bool → Bool → Bool) (hq : q false false = false) (a b : List S41) (hv : ∀ s, s ∈ a ∨ s ∈ b → s.f0 < s.f1) (E : List Int) (hp : E.Pairwise (· < ·)) (hE : ∀ s, s ∈ a ∨ s ∈ b → s.f0 ∈ E ∧ s.f1 ∈ E) (x : Int) :
    inP (fun e => q (memS a e) (memS b e)) E x = q (memS a x) (memS b x) := by
  have low : (∀ e ∈ E, x < e) → inP (fun e => q (memS a e) (memS b e)) E x = q (memS a x) (memS b x) := fun hlow => by
    have key : ∀ l : List S41, (∀ s ∈ l, s ∈ a ∨ s ∈ b) → memS l x = false := fun l hl => by
      rw [← Bool.not_eq_true, memS_iff]
      rintro ⟨s, hs, hsx⟩
      have := hlow _ (hE s (hl s hs)).1
      omega
    rw [inP_low _ E x hlow, key a (fun s hs => .inl hs), key b (fun s hs => .inr hs), hq]
  rcases E with _ | ⟨e, t⟩
  · exact low (fun e he => absurd he (by simp))
  · by_cases hx : e ≤ x
    · exact inP_floor q hq a b (e :: t) hp (by simp) (fun s hs => ⟨.inl (hE s hs).1, .inl (hE s hs).2⟩) x ⟨e, by simp, hx⟩
    · refine low (fun z hz => ?_)
      rcases List.mem_cons.1 hz with rfl | hz
      · omega
      · have := (List.pairwise_cons.1 hp).1 z hz
        omega
def keepsB (kind : Int) (a b : Bool) : Bool := if kind = 0 then a || b else if kind = 1 then a && b else a && !b
theorem keepsB_ff (kind : Int) : keepsB kind false false = false := by
  unfold keepsB
  by_cases h0 : kind = 0 <;> by_cases h1 : kind = 1 <;> simp [h0, h1]
def keepP (kind : Int) (a b : List S41) (e : Int) : Bool := keepsB kind (memS a e) (memS b e)
theorem drop2 (E : List Int) (i : Nat) (h : i + 1 < E.length) : E.drop i = rd E (i : Int) :: rd E ((i + 1 : Nat) : Int) :: E.drop (i + 2) := by
  rw [dropI E i (by omega), dropI E (i + 1) h]
/-- The ends of two lists of spans, ascending. -/
def ends2 (a b : List S41) : List Int := endsL (endsL [] a) b
def madeL (kind : Int) (a b : List S41) : List S41 := gen (keepP kind a b) (ends2 a b) none
/-- WHAT MADE IS: ascending, with the numbers that the kind keeps. -/
theorem made_spec (kind : Int) (a b : List S41) (hv : ∀ s, s ∈ a ∨ s ∈ b → -1099511627776 ≤ s.f0 ∧ s.f0 < s.f1 ∧ s.f1 ≤ 1099511627776) :
    Asc (-1099511627776) (madeL kind a b) ∧ ∀ x, memS (madeL kind a b) x = keepsB kind (memS a x) (memS b x) := by
  obtain ⟨p1, m1, n1⟩ := endsL_spec a [] List.Pairwise.nil
  obtain ⟨p2, m2, n2⟩ := endsL_spec b _ p1
  have hin : ∀ z ∈ ends2 a b, -1099511627776 ≤ z ∧ z ≤ 1099511627776 := fun z hz => by
    rcases (m2 z).1 hz with hz | ⟨s, hs, hz⟩
    · rcases (m1 z).1 hz with hz | ⟨s, hs, hz⟩
      · cases hz
      · have := hv s (.inl hs); rcases hz with rfl | rfl <;> omega
    · have := hv s (.inr hs); rcases hz with rfl | rfl <;> omega
  obtain ⟨ha, hm⟩ := gen_spec (keepP kind a b) (ends2 a b) none (-1099511627776) p2 hin (fun c hc => by cases hc)
  refine ⟨ha, fun x => ?_⟩
  show memS (gen _ _ none) x = _
  rw [hm x]
  have := inP_ends (keepsB kind) (keepsB_ff kind) a b (fun s hs => (hv s hs).2.1) (ends2 a b) p2 (fun s hs => by
    rcases hs with hs | hs
    · exact ⟨(m2 _).2 (.inl ((m1 _).2 (.inr ⟨s, hs, .inl rfl⟩))), (m2 _).2 (.inl ((m1 _).2 (.inr ⟨s, hs, .inr rfl⟩)))⟩
    · exact ⟨(m2 _).2 (.inr ⟨s, hs, .inl rfl⟩), (m2 _).2 (.inr ⟨s, hs, .inr rfl⟩)⟩) x
  simp only [Option.toList_none]
  rw [show memS [] x = false from rfl, Bool.false_or]
  exact this
/-- What is said of a list of spans: 3 too long, 2 not good, 0. -/
def listR (l : List S41) : Int := if l.length > 128 then 3 else if l.any (fun x => !goodS x) then 2 else 0
theorem listed_f (l : List S41) : span_listed.f l = some (listR l) := by
  unfold span_listed.f listR
  by_cases h : l.length > 128
  · rw [if_pos h, if_pos h]
  · rw [if_neg h, if_neg h]
    cases l.any (fun x => !goodS x) <;> rfl
theorem listR_good {l : List S41} (h : listR l = 0) : l.length ≤ 128 ∧ ∀ s ∈ l, -1099511627776 ≤ s.f0 ∧ s.f0 < s.f1 ∧ s.f1 ≤ 1099511627776 := by
  unfold listR at h
  by_cases h1 : l.length > 128
  · rw [if_pos h1] at h; omega
  · rw [if_neg h1] at h
    by_cases h2 : l.any (fun x => !goodS x) = true
    · rw [if_pos h2] at h; omega
    · refine ⟨by omega, fun s hs => ?_⟩
      rw [← goodS_iff]
      simp only [List.any_eq_true, Bool.not_eq_true'] at h2
      exact Decidable.byContradiction fun hc => h2 ⟨s, hs, Bool.eq_false_iff.2 hc⟩
/-- OF, OF BOTH. -/
def ofL (l : List S41) : List S41 := madeL 0 l []
def ofR (l : List S41) : List S41 × Int := if listR l = 0 then (ofL l, 0) else ([], listR l)
theorem memS_nil (x : Int) : memS [] x = false := rfl
theorem ofL_spec {l : List S41} (h : listR l = 0) : Asc (-1099511627776) (ofL l) ∧ ∀ x, memS (ofL l) x = memS l x := by
  obtain ⟨ha, hm⟩ := made_spec 0 l [] (fun s hs => by
    rcases hs with hs | hs
    · exact (listR_good h).2 s hs
    · cases hs)
  exact ⟨ha, fun x => by rw [ofL, hm x, memS_nil]; simp [keepsB]⟩
theorem jn_of {l : List S41} (h : listR l = 0) : jn (sortLo l) none = ofL l := by
  obtain ⟨hl, hg⟩ := listR_good h
  obtain ⟨ha, hm⟩ := jn_spec (sortLo l) none (-1099511627776) (sortLo_pairwise l) (fun s hs => hg s ((sortLo_perm l).mem_iff.1 hs)) (fun c hc => by cases hc)
  obtain ⟨ha', hm'⟩ := ofL_spec h
  refine canon _ _ _ _ ha ha' (fun x => ?_)
  rw [hm x, hm' x, memS_perm (sortLo_perm l) x]
  rfl
theorem clone_f {l : List S41} (h : l.length ≤ 128) : clone_Span.f l = some l := by unfold clone_Span.f; rw [if_pos (by omega)]
theorem spanOf_ev (l : List S41) : Ev (fun k => span_Of.f k l) (ofR l) := by
  unfold span_Of.f ofR
  rw [listed_f]
  simp only [Option.bind_some]
  by_cases h : listR l = 0
  · have := (listR_good h).1
    simp only [if_pos h, clone_f this, Option.bind_some]
    have hj := joined_ev (sortLo l) (by rw [sortLo_length]; omega)
    rw [jn_of h] at hj
    exact Ev.bind hj (Ev.now _)
  · simp only [if_neg h]
    exact Ev.now _
/-- An ascending list of at most 128 spans is a set. -/
theorem validFrom_of_asc (l : List S41) : ∀ (d i : Nat), l.length - i = d → Asc (if i = 0 then -1099511627776 else (l.getD (i - 1) z41).f1 + 1) (l.drop i) → -1099511627776 ≤ (if i = 0 then -1099511627776 else (l.getD (i - 1) z41).f1 + 1) → validFrom l i = true
  | 0, i, h, _, _ => validFrom_end l i (by omega)
  | d + 1, i, h, ha, hlo => by
    have hi : i < l.length := by omega
    rw [drop_cons l i hi] at ha
    obtain ⟨h1, h2, h3, h4⟩ := ha
    rw [validFrom_step l i hi, validFrom_of_asc l d (i + 1) (by omega) (by rw [if_neg (by omega)]; exact h4) (by rw [if_neg (by omega)]; simp only [Nat.add_sub_cancel]; omega)]
    unfold okAt
    rw [(goodS_iff _).2 ⟨by omega, h2, h3⟩]
    by_cases h0 : i = 0
    · simp [h0]
    · rw [if_neg h0] at h1
      rw [show decide ((l.getD (i - 1) z41).f1 < (l.getD i z41).f0) = true from decide_eq_true (by omega)]
      simp
theorem valid_of_asc {l : List S41} (hn : l.length ≤ 128) (h : Asc (-1099511627776) l) : validS l = true := by
  unfold validS
  rw [validFrom_of_asc l _ 0 rfl h (by simp)]
  simp [hn]
theorem ofL_valid {l : List S41} (h : listR l = 0) : validS (ofL l) = true := by
  refine valid_of_asc ?_ (ofL_spec h).1
  rw [← jn_of h]
  have := jn_len (sortLo l) none
  have := (listR_good h).1
  have := sortLo_length l
  simp at *
  omega
def GoodL (l : List S41) : Prop := ∀ s ∈ l, -1099511627776 ≤ s.f0 ∧ s.f0 < s.f1 ∧ s.f1 ≤ 1099511627776
theorem goodL_asc : ∀ (l : List S41) (lo : Int), Asc lo l → -1099511627776 ≤ lo → GoodL l
  | [], _, _, _ => fun s hs => by cases hs
  | s :: t, lo, ⟨h1, h2, h3, h4⟩, hlo => fun x hx => by
    rcases List.mem_cons.1 hx with rfl | hx
    · exact ⟨by omega, h2, h3⟩
    · exact goodL_asc t _ h4 (by omega) x hx
theorem asc_pair : ∀ (l : List S41) (lo : Int), Asc lo l → l.Pairwise (fun a b => a.f1 < b.f0) ∧ ∀ s ∈ l, lo ≤ s.f0
  | [], _, _ => ⟨List.Pairwise.nil, fun s hs => by cases hs⟩
  | s :: t, lo, ⟨h1, h2, h3, h4⟩ => by
    obtain ⟨p, q⟩ := asc_pair t _ h4
    refine ⟨List.pairwise_cons.2 ⟨fun x hx => by have := q x hx; omega, p⟩, fun x hx => ?_⟩
    rcases List.mem_cons.1 hx with rfl | hx
    · exact h1
    · have := q x hx; omega
theorem pair_or {R : S41 → S41 → Prop} : ∀ {l : List S41}, l.Pairwise R → ∀ a ∈ l, ∀ b ∈ l, a = b ∨ R a b ∨ R b a
  | [], _, a, ha, _, _ => by cases ha
  | s :: t, h, a, ha, b, hb => by
    rw [List.pairwise_cons] at h
    rcases List.mem_cons.1 ha with rfl | ha'
    · rcases List.mem_cons.1 hb with rfl | hb'
      · exact .inl rfl
      · exact .inr (.inl (h.1 b hb'))
    · rcases List.mem_cons.1 hb with rfl | hb'
      · exact .inr (.inr (h.1 a ha'))
      · exact pair_or h.2 a ha' b hb'
theorem valid_goodL {l : List S41} (h : validS l = true) : l.length ≤ 128 ∧ GoodL l := ⟨(asc_valid h).1, goodL_asc l _ (asc_valid h).2 (Int.le_refl _)⟩
theorem good_two {a b : List S41} (ha : GoodL a) (hb : GoodL b) : ∀ s, s ∈ a ∨ s ∈ b → -1099511627776 ≤ s.f0 ∧ s.f0 < s.f1 ∧ s.f1 ≤ 1099511627776 := fun s hs => hs.elim (ha s) (hb s)
theorem compactUpTo_spec (S : List Int) (h : S.Pairwise (· ≤ ·)) : ∀ m, m ≤ S.length → (Lib.compactUpTo S.toArray m).Pairwise (· < ·) ∧ (∀ z, z ∈ Lib.compactUpTo S.toArray m ↔ ∃ j, ∃ hj : j < m, ∃ hs : j < S.length, z = S[j]) ∧ (Lib.compactUpTo S.toArray m).length ≤ m
  | 0, _ => by simp [Lib.compactUpTo]
  | m + 1, hm => by
    obtain ⟨ih1, ih2, ih3⟩ := compactUpTo_spec S h m (by omega)
    have hmS : m < S.length := by omega
    have em : S.toArray[m]! = S[m] := by rw [getElem!_pos S.toArray m (by simpa using hmS)]; simp
    rw [Lib.compactUpTo_succ, em]
    by_cases hk : Lib.keeps S.toArray m = true
    · rw [if_pos hk]
      refine ⟨?_, fun z => ?_, by simp; omega⟩
      · rw [List.pairwise_append]
        refine ⟨ih1, by simp, fun x hx y hy => ?_⟩
        rw [List.mem_singleton] at hy
        subst hy
        obtain ⟨j, hj, hs, rfl⟩ := (ih2 x).1 hx
        have hle : S[j] ≤ S[m - 1] := by
          rcases Nat.lt_or_ge j (m - 1) with hlt | hge
          · exact (List.pairwise_iff_getElem.1 h) j (m - 1) hs (by omega) hlt
          · have : j = m - 1 := by omega
            subst this
            exact Int.le_refl _
        have hle2 : S[m - 1] ≤ S[m] := (List.pairwise_iff_getElem.1 h) (m - 1) m (by omega) hmS (by omega)
        have hne : S[m] ≠ S[m - 1] := by
          unfold Lib.keeps at hk
          rw [decide_eq_true_eq] at hk
          rcases hk with h0 | h0
          · omega
          · rw [em, getElem!_pos S.toArray (m - 1) (by simp; omega)] at h0
            simpa using h0
        omega
      · rw [List.mem_append, ih2 z, List.mem_singleton]
        constructor
        · rintro (⟨j, hj, hs, rfl⟩ | rfl)
          · exact ⟨j, by omega, hs, rfl⟩
          · exact ⟨m, by omega, hmS, rfl⟩
        · rintro ⟨j, hj, hs, rfl⟩
          rcases Nat.lt_or_ge j m with hlt | hge
          · exact .inl ⟨j, hlt, hs, rfl⟩
          · have : j = m := by omega
            subst this
            exact .inr rfl
    · rw [if_neg hk, List.append_nil]
      refine ⟨ih1, fun z => ?_, by omega⟩
      have hno : ¬ (m = 0 ∨ S.toArray[m]! ≠ S.toArray[m - 1]!) := fun hc => hk (by unfold Lib.keeps; exact decide_eq_true hc)
      have h0 : m ≠ 0 := fun hc => hno (.inl hc)
      have he : S[m] = S[m - 1] := by
        have := Decidable.not_not.1 (fun hc => hno (.inr hc))
        rw [em, getElem!_pos S.toArray (m - 1) (by simp; omega)] at this
        simpa using this
      rw [ih2 z]
      constructor
      · rintro ⟨j, hj, hs, rfl⟩
        exact ⟨j, by omega, hs, rfl⟩
      · rintro ⟨j, hj, hs, rfl⟩
        rcases Nat.lt_or_ge j m with hlt | hge
        · exact ⟨j, hlt, hs, rfl⟩
        · have : j = m := by omega
          subst this
          exact ⟨j - 1, by omega, by omega, he⟩
theorem compact_spec (S : List Int) (h : S.Pairwise (· ≤ ·)) : (Lib.compact S).Pairwise (· < ·) ∧ (∀ z, z ∈ Lib.compact S ↔ z ∈ S) ∧ (Lib.compact S).length ≤ S.length := by
  obtain ⟨h1, h2, h3⟩ := compactUpTo_spec S h S.length (Nat.le_refl _)
  refine ⟨h1, fun z => ?_, h3⟩
  show z ∈ Lib.compactUpTo S.toArray S.length ↔ _
  rw [h2 z, List.mem_iff_getElem]
  constructor
  · rintro ⟨j, hj, hs, rfl⟩
    exact ⟨j, hs, rfl⟩
  · rintro ⟨j, hs, rfl⟩
    exact ⟨j, hs, hs, rfl⟩
def flatS (l : List S41) : List Int := l.flatMap (fun s => [s.f0, s.f1])
def cutsAt (a b : List S41) : Nat → List Int
  | 0 => [-1099511627776, 1099511627776]
  | 1 => [-1099511627776, 1099511627776] ++ flatS a
  | _ => [-1099511627776, 1099511627776] ++ flatS a ++ flatS b
theorem flat_succ (l : List S41) (i : Nat) (h : i < l.length) : flatS (l.take (i + 1)) = flatS (l.take i) ++ [(l.getD i z41).f0, (l.getD i z41).f1] := by
  unfold flatS
  rw [List.take_succ_eq_append_getElem h, List.flatMap_append]
  simp [List.getD_eq_getElem?_getD, List.getElem?_eq_getElem h]
theorem flat_len : ∀ l : List S41, (flatS l).length = 2 * l.length
  | [] => rfl
  | s :: t => by
    have := flat_len t
    rw [show flatS (s :: t) = [s.f0, s.f1] ++ flatS t from rfl, List.length_append, this]
    simp
    omega
theorem mem_flat (l : List S41) (z : Int) : z ∈ flatS l ↔ ∃ s ∈ l, z = s.f0 ∨ z = s.f1 := by
  unfold flatS
  rw [List.mem_flatMap]
  simp
def cutsE (a b : List S41) : List Int := Lib.compact ((cutsAt a b 2).mergeSort fun x y => decide (x ≤ y))
theorem cutsE_spec (a b : List S41) : (cutsE a b).Pairwise (· < ·) ∧ (∀ z, z ∈ cutsE a b ↔ z = -1099511627776 ∨ z = 1099511627776 ∨ ∃ s, (s ∈ a ∨ s ∈ b) ∧ (z = s.f0 ∨ z = s.f1)) ∧ (cutsE a b).length ≤ 2 + 2 * a.length + 2 * b.length := by
  have hs : ((cutsAt a b 2).mergeSort fun x y => decide (x ≤ y)).Pairwise (· ≤ ·) := by
    have := List.pairwise_mergeSort (le := fun x y : Int => decide (x ≤ y)) (fun a b c h1 h2 => by simp at *; omega) (fun a b => by simp; omega) (cutsAt a b 2)
    exact this.imp (fun h => by simpa using h)
  obtain ⟨h1, h2, h3⟩ := compact_spec _ hs
  refine ⟨h1, fun z => ?_, ?_⟩
  · show z ∈ Lib.compact _ ↔ _
    rw [h2 z, List.mem_mergeSort]
    show z ∈ [-1099511627776, 1099511627776] ++ flatS a ++ flatS b ↔ _
    rw [List.mem_append, List.mem_append, mem_flat, mem_flat]
    simp only [List.mem_cons, List.not_mem_nil, or_false]
    constructor
    · rintro (((h | h) | ⟨s, hs, h⟩) | ⟨s, hs, h⟩)
      · exact .inl h
      · exact .inr (.inl h)
      · exact .inr (.inr ⟨s, .inl hs, h⟩)
      · exact .inr (.inr ⟨s, .inr hs, h⟩)
    · rintro (h | h | ⟨s, hs | hs, h⟩)
      · exact .inl (.inl (.inl h))
      · exact .inl (.inl (.inr h))
      · exact .inl (.inr ⟨s, hs, h⟩)
      · exact .inr ⟨s, hs, h⟩
  · rw [List.length_mergeSort] at h3
    refine Nat.le_trans h3 ?_
    show ([-1099511627776, 1099511627776] ++ flatS a ++ flatS b).length ≤ _
    rw [List.length_append, List.length_append, flat_len, flat_len]
    simp
abbrev PieceT := S41 × (Bool × Bool)
def pieceAt (a b : List S41) (E : List Int) (i : Nat) : PieceT := (⟨rd E (i : Int), rd E ((i + 1 : Nat) : Int)⟩, (memS a (rd E (i : Int)), memS b (rd E (i : Int))))
def upTo (a b : List S41) (E : List Int) (n : Nat) : List PieceT := (List.range n).map (pieceAt a b E)
def piecesL (a b : List S41) : List PieceT := upTo a b (cutsE a b) ((cutsE a b).length - 1)
theorem upTo_succ (a b : List S41) (E : List Int) (n : Nat) : upTo a b E (n + 1) = upTo a b E n ++ [pieceAt a b E n] := by
  unfold upTo
  rw [List.range_succ, List.map_append]
  rfl
theorem upTo_len (a b : List S41) (E : List Int) (n : Nat) : (upTo a b E n).length = n := by simp [upTo]
/-- The pieces of a list of cuts. -/
def pcs (a b : List S41) : List Int → List PieceT
  | e :: e' :: t => (⟨e, e'⟩, (memS a e, memS b e)) :: pcs a b (e' :: t)
  | _ => []
theorem upTo_from (a b : List S41) (E : List Int) : ∀ (d i : Nat), E.length - 1 - i = d → (List.range' i d).map (pieceAt a b E) = pcs a b (E.drop i)
  | 0, i, h => by
    rcases hd : E.drop i with _ | ⟨e, _ | ⟨e', t⟩⟩
    · rfl
    · rfl
    · have := congrArg List.length hd
      simp at this
      omega
  | d + 1, i, h => by
    rw [List.range'_succ, List.map_cons, upTo_from a b E d (i + 1) (by omega), drop2 E i (by omega), pcs, dropI E (i + 1) (by omega)]
    rfl
theorem piecesL_eq (a b : List S41) : piecesL a b = pcs a b (cutsE a b) := by
  have := upTo_from a b (cutsE a b) _ 0 rfl
  unfold piecesL upTo
  rw [List.range_eq_range']
  simpa using this
/-- What a rule chooses. -/
def chz (q : Bool → Bool → Bool) (l : List PieceT) : List S41 := (l.filter (fun p => q p.2.1 p.2.2)).map (fun p => p.1)
theorem chz_snoc (q : Bool → Bool → Bool) (l : List PieceT) (x : PieceT) : chz q (l ++ [x]) = if q x.2.1 x.2.2 = true then chz q l ++ [x.1] else chz q l := by
  unfold chz
  rw [List.filter_append, List.map_append]
  by_cases h : q x.2.1 x.2.2 = true
  · rw [if_pos h]; simp [h]
  · rw [if_neg h]; simp [h]
theorem chz_len (q : Bool → Bool → Bool) (l : List PieceT) : (chz q l).length ≤ l.length := by
  unfold chz
  rw [List.length_map]
  exact List.length_filter_le _ _
theorem chz_mem (q : Bool → Bool → Bool) (a b : List S41) : ∀ (E : List Int) (x : Int), memS (chz q (pcs a b E)) x = inP (fun e => q (memS a e) (memS b e)) E x
  | [], _ => rfl
  | [_], _ => rfl
  | e :: e' :: t, x => by
    have ih := chz_mem q a b (e' :: t) x
    rw [pcs, inP, ← ih]
    unfold chz
    rw [List.filter_cons]
    by_cases h : q (memS a e) (memS b e) = true
    · rw [if_pos h, List.map_cons, memS_cons, h, Bool.true_and]
      rfl
    · rw [if_neg h, Bool.eq_false_iff.2 h, Bool.false_and, Bool.false_or]
theorem chz_low (q : Bool → Bool → Bool) (a b : List S41) : ∀ (E : List Int) (lo hi : Int), E.Pairwise (· < ·) → (∀ e ∈ E, lo ≤ e ∧ e ≤ hi) → (chz q (pcs a b E)).Pairwise (fun x y => x.f0 ≤ y.f0) ∧ ∀ s ∈ chz q (pcs a b E), lo ≤ s.f0 ∧ s.f0 < s.f1 ∧ s.f1 ≤ hi
  | [], _, _, _, _ => by simp [pcs, chz]
  | [_], _, _, _, _ => by simp [pcs, chz]
  | e :: e' :: t, lo, hi, hp, hE => by
    rw [List.pairwise_cons] at hp
    have h0 := hE e (List.mem_cons_self)
    have h1 := hE e' (List.mem_cons_of_mem _ List.mem_cons_self)
    have hlt := hp.1 e' List.mem_cons_self
    obtain ⟨ip, im⟩ := chz_low q a b (e' :: t) e' hi hp.2 (fun z hz => ⟨by
      rcases List.mem_cons.1 hz with rfl | hz
      · exact Int.le_refl _
      · have := (List.pairwise_cons.1 hp.2).1 z hz
        exact Int.le_of_lt this, (hE z (List.mem_cons_of_mem _ hz)).2⟩)
    have hstep : chz q (pcs a b (e :: e' :: t)) = if q (memS a e) (memS b e) = true then ⟨e, e'⟩ :: chz q (pcs a b (e' :: t)) else chz q (pcs a b (e' :: t)) := by
      rw [pcs]
      unfold chz
      rw [List.filter_cons]
      by_cases h : q (memS a e) (memS b e) = true
      · rw [if_pos h, if_pos h]; rfl
      · rw [if_neg h, if_neg h]
    rw [hstep]
    by_cases h : q (memS a e) (memS b e) = true
    · rw [if_pos h]
      refine ⟨?_, fun s hs => ?_⟩
      · rw [List.pairwise_cons]
        exact ⟨fun s hs => by have := im s hs; simp only; omega, ip⟩
      · rcases List.mem_cons.1 hs with rfl | hs
        · exact ⟨h0.1, hlt, h1.2⟩
        · have := im s hs; omega
    · rw [if_neg h]
      exact ⟨ip, fun s hs => by have := im s hs; omega⟩
theorem valid_gd {l : List S41} (h : validS l = true) : ∀ s ∈ l, -1099511627776 ≤ s.f0 ∧ s.f0 < s.f1 ∧ s.f1 ≤ 1099511627776 := by
  have key : ∀ (l : List S41) (lo : Int), -1099511627776 ≤ lo → Asc lo l → ∀ s ∈ l, -1099511627776 ≤ s.f0 ∧ s.f0 < s.f1 ∧ s.f1 ≤ 1099511627776 := by
    intro l
    induction l with
    | nil => intro lo _ _ s hs; cases hs
    | cons y t ih =>
      rintro lo hlo ⟨h1, h2, h3, h4⟩ s hs
      rcases List.mem_cons.1 hs with rfl | hs
      · omega
      · exact ih _ (by omega) h4 s hs
  exact key l _ (Int.le_refl _) (asc_valid h).2
/-- In an ascending list the first span that ends behind a number tells whether the number is there. -/
theorem asc_first : ∀ (l : List S41) (lo x : Int) (i : Nat), Asc lo l → (∀ j, j < i → (l.getD j z41).f1 ≤ x) → (i < l.length → x < (l.getD i z41).f1) → memS l x = (decide (i < l.length) && decide ((l.getD i z41).f0 ≤ x))
  | [], lo, x, i, _, _, _ => by simp [memS]
  | s :: t, lo, x, 0, ⟨h1, h2, h3, h4⟩, _, hi => by
    have hx : x < s.f1 := by simpa using hi (by simp)
    have ht : memS t x = false := by
      rw [← Bool.not_eq_true]
      intro hc
      have := asc_low _ _ _ h4 hc
      omega
    rw [memS_cons, ht, Bool.or_false]
    unfold hasS
    simp [hx]
  | s :: t, lo, x, i + 1, ⟨h1, h2, h3, h4⟩, hb, hi => by
    have h0 : s.f1 ≤ x := by simpa using hb 0 (by omega)
    have := asc_first t _ x i h4 (fun j hj => by simpa using hb (j + 1) (by omega)) (fun hl => by simpa using hi (by simpa using hl))
    rw [memS_cons, this]
    have hs : hasS x s = false := by unfold hasS; simp; omega
    rw [hs, Bool.false_or]
    simp
/-- The plain answer of Union (0), Intersect (1) and Subtract (2), of both. -/
def twoR (kind : Int) (a b : List S41) : List S41 × Int := if validS a && validS b then (if (madeL kind a b).length > 128 then ([], 8) else (madeL kind a b, 0)) else ([], 2)
theorem jn_chz (q : Bool → Bool → Bool) (a b : List S41) (ha : validS a = true) (hb : validS b = true) : Asc (-1099511627776) (jn (chz q (piecesL a b)) none) ∧ ∀ x, memS (jn (chz q (piecesL a b)) none) x = inP (fun e => q (memS a e) (memS b e)) (cutsE a b) x := by
  obtain ⟨e1, e2, e3⟩ := cutsE_spec a b
  have hE : ∀ e ∈ cutsE a b, -1099511627776 ≤ e ∧ e ≤ 1099511627776 := fun e he => by
    rcases (e2 e).1 he with rfl | rfl | ⟨s, hs, h⟩
    · omega
    · omega
    · have : -1099511627776 ≤ s.f0 ∧ s.f0 < s.f1 ∧ s.f1 ≤ 1099511627776 := hs.elim (valid_gd ha s) (valid_gd hb s)
      rcases h with rfl | rfl <;> omega
  obtain ⟨l1, l2⟩ := chz_low q a b (cutsE a b) _ _ e1 hE
  rw [piecesL_eq]
  obtain ⟨j1, j2⟩ := jn_spec _ none (-1099511627776) l1 l2 (fun c hc => by cases hc)
  refine ⟨j1, fun x => ?_⟩
  rw [j2 x, chz_mem]
  rfl
theorem chosen_made (kind : Int) (a b : List S41) (ha : validS a = true) (hb : validS b = true) : jn (chz (keepsB kind) (piecesL a b)) none = madeL kind a b := by
  obtain ⟨j1, j2⟩ := jn_chz (keepsB kind) a b ha hb
  obtain ⟨e1, e2, e3⟩ := cutsE_spec a b
  have hg : ∀ s, s ∈ a ∨ s ∈ b → -1099511627776 ≤ s.f0 ∧ s.f0 < s.f1 ∧ s.f1 ≤ 1099511627776 := fun s hs => hs.elim (valid_gd ha s) (valid_gd hb s)
  obtain ⟨m1, m2⟩ := made_spec kind a b hg
  refine canon _ _ _ _ j1 m1 (fun x => ?_)
  rw [j2 x, m2 x]
  exact inP_ends (keepsB kind) (keepsB_ff kind) a b (fun s hs => (hg s hs).2.1) _ e1 (fun s hs => ⟨(e2 _).2 (.inr (.inr ⟨s, hs, .inl rfl⟩)), (e2 _).2 (.inr (.inr ⟨s, hs, .inr rfl⟩))⟩) x
/-- What the program's rule comes to. -/
theorem prog_two (kind : Int) (a b : List S41) (h : (validS a && validS b) = true) : twoR kind a b = if (jn (chz (keepsB kind) (piecesL a b)) none).length > 128 then ([], 8) else (jn (chz (keepsB kind) (piecesL a b)) none, 0) := by
  unfold twoR
  rw [h]
  simp only [if_true]
  rw [Bool.and_eq_true] at h
  rw [chosen_made kind a b h.1 h.2]
theorem nodup_len : ∀ (l m : List Int), l.Pairwise (· < ·) → (∀ x ∈ l, x ∈ m) → l.length ≤ m.length
  | [], _, _, _ => Nat.zero_le _
  | x :: t, m, h, hs => by
    rw [List.pairwise_cons] at h
    have hx := hs x List.mem_cons_self
    have h1 := nodup_len t (m.erase x) h.2 (fun y hy => (List.mem_erase_of_ne (by have := h.1 y hy; omega)).2 (hs y (List.mem_cons_of_mem _ hy)))
    rw [List.length_erase_of_mem hx] at h1
    have h2 : 0 < m.length := List.length_pos_of_mem hx
    rw [List.length_cons]
    omega
theorem flip_up {l : List S41} {x : Int} (h1 : memS l x = true) (h0 : memS l (x - 1) = false) : x ∈ l.map (fun s => s.f0) := by
  obtain ⟨s, hs, a1, a2⟩ := (memS_iff _ _).1 h1
  refine List.mem_map.2 ⟨s, hs, ?_⟩
  by_cases h : s.f0 ≤ x - 1
  · have h3 : memS l (x - 1) = true := (memS_iff _ _).2 ⟨s, hs, h, by omega⟩
    rw [h0] at h3
    cases h3
  · show s.f0 = x
    omega
theorem flip_down {l : List S41} {x : Int} (h1 : memS l x = false) (h0 : memS l (x - 1) = true) : x ∈ l.map (fun s => s.f1) := by
  obtain ⟨s, hs, a1, a2⟩ := (memS_iff _ _).1 h0
  refine List.mem_map.2 ⟨s, hs, ?_⟩
  by_cases h : x < s.f1
  · have h3 : memS l x = true := (memS_iff _ _).2 ⟨s, hs, by omega, h⟩
    rw [h1] at h3
    cases h3
  · show s.f1 = x
    omega
theorem asc_left : ∀ (l : List S41) (lo : Int), Asc lo l → (l.map (fun s => s.f0)).Pairwise (· < ·)
  | [], _, _ => List.Pairwise.nil
  | s :: t, lo, ⟨h1, h2, h3, h4⟩ => by
    rw [List.map_cons, List.pairwise_cons]
    refine ⟨fun y hy => ?_, asc_left t _ h4⟩
    obtain ⟨u, hu, rfl⟩ := List.mem_map.1 hy
    have := (asc_pair t _ h4).2 u hu
    omega
theorem asc_start {l : List S41} {lo : Int} (h : Asc lo l) (hlo : -1099511627776 ≤ lo) : ∀ s ∈ l, memS l s.f0 = true ∧ memS l (s.f0 - 1) = false := by
  intro s hs
  have g := goodL_asc l lo h hlo s hs
  refine ⟨(memS_iff _ _).2 ⟨s, hs, Int.le_refl _, g.2.1⟩, ?_⟩
  rw [← Bool.not_eq_true]
  intro hm
  obtain ⟨s', hs', a1, a2⟩ := (memS_iff _ _).1 hm
  have g' := goodL_asc l lo h hlo s' hs'
  rcases pair_or (asc_pair l lo h).1 s' hs' s hs with rfl | h | h <;> omega
/-- A set made of two lists has no more spans than the lists together. -/
theorem made_few (kind : Int) (hk : kind = 0 ∨ kind = 1 ∨ kind = 2) {a b : List S41} (ha : GoodL a) (hb : GoodL b) : (madeL kind a b).length ≤ a.length + b.length := by
  obtain ⟨h1, h2⟩ := made_spec kind a b (good_two ha hb)
  have h3 := nodup_len ((madeL kind a b).map (fun s => s.f0)) (a.map (fun s => s.f0) ++ b.map (fun s => if kind = 2 then s.f1 else s.f0)) (asc_left _ _ h1) (fun x hx => ?_)
  · simpa using h3
  · obtain ⟨s, hs, rfl⟩ := List.mem_map.1 hx
    obtain ⟨e1, e0⟩ := asc_start h1 (Int.le_refl _) s hs
    rw [h2] at e1 e0
    have ua := @flip_up a s.f0
    have ub := @flip_up b s.f0
    have db := @flip_down b s.f0
    rw [List.mem_append]
    generalize memS a s.f0 = p at *
    generalize memS a (s.f0 - 1) = p' at *
    generalize memS b s.f0 = q at *
    generalize memS b (s.f0 - 1) = q' at *
    rcases hk with rfl | rfl | rfl
    · cases p <;> cases p' <;> cases q <;> cases q' <;> simp [keepsB] at e1 e0 <;> simp_all
    · cases p <;> cases p' <;> cases q <;> cases q' <;> simp [keepsB] at e1 e0 <;> simp_all
    · cases p <;> cases p' <;> cases q <;> cases q' <;> simp [keepsB] at e1 e0 <;> simp_all
def pick60 : List S41 → List S41 → List S41
  | [], acc => acc
  | s :: t, acc => if acc.length < 60 then (if goodS s = true then pick60 t (acc ++ [s]) else pick60 t acc) else acc
theorem pick60_spec : ∀ (l acc : List S41), acc.length ≤ 60 → (∀ s ∈ acc, goodS s = true) → (pick60 l acc).length ≤ 60 ∧ ∀ s ∈ pick60 l acc, goodS s = true
  | [], acc, h, hg => ⟨h, hg⟩
  | s :: t, acc, h, hg => by
    unfold pick60
    by_cases h60 : acc.length < 60
    · rw [if_pos h60]
      by_cases hs : goodS s = true
      · rw [if_pos hs]
        refine pick60_spec t _ (by simp; omega) (fun u hu => ?_)
        rcases List.mem_append.1 hu with hu | hu
        · exact hg u hu
        · rw [List.mem_singleton.1 hu]; exact hs
      · rw [if_neg hs]
        exact pick60_spec t acc h hg
    · rw [if_neg h60]
      exact ⟨h, hg⟩
theorem sets_loop (l : List S41) (hn : l.length ≤ 9223372036854775807) : ∀ (d i : Nat) (acc : List S41), l.length - i = d → acc.length ≤ 60 → Ev (fun k => kimberlitelaw01_sets.l0 k l acc (i : Int)) (ofR (pick60 (l.drop i) acc)).1
  | 0, i, acc, hd, ha => by
    rw [List.drop_of_length_le (by omega)]
    refine Ev.step (f := fun k => kimberlitelaw01_sets.j1 k l acc (i : Int) false) (fun k => by simp only [kimberlitelaw01_sets.l0]; rw [if_neg (by omega)]) ?_
    refine Ev.step (f := fun k => (span_Of.f k acc).bind fun t => some t.1) (fun k => by simp only [kimberlitelaw01_sets.j1]; rw [if_neg (by decide)]) ?_
    exact Ev.bind (spanOf_ev acc) (Ev.now _)
  | d + 1, i, acc, hd, ha => by
    have hi : i < l.length := by omega
    rw [drop_cons l i hi]
    by_cases h60 : acc.length < 60
    · have hg := goodS_iff (l.getD i z41)
      refine Ev.step (f := fun k => kimberlitelaw01_sets.j1 k l acc (i : Int) true) (fun k => by simp only [kimberlitelaw01_sets.l0]; rw [if_pos (by omega), decide_eq_true (by omega)]) ?_
      refine Ev.step (f := fun k => kimberlitelaw01_sets.j2 k l acc (i : Int) (goodS (l.getD i z41))) (fun k => ?_) ?_
      · simp only [kimberlitelaw01_sets.j1]
        rw [if_pos (by trivial), if_pos (by omega), if_pos (by omega), rd_nat]
        by_cases c1 : (l.getD i z41).f0 ≥ -1099511627776
        · rw [if_pos c1]
          by_cases c2 : (l.getD i z41).f0 < (l.getD i z41).f1
          · rw [if_pos c2]
            congr 1
            rw [Bool.eq_iff_iff, hg, decide_eq_true_iff]
            omega
          · rw [if_neg c2]
            congr 1
            exact (Bool.eq_false_iff.2 (fun h => by have := hg.1 h; omega)).symm
        · rw [if_neg c1]
          congr 1
          exact (Bool.eq_false_iff.2 (fun h => by have := hg.1 h; omega)).symm
      · unfold pick60
        rw [if_pos h60]
        cases hgs : goodS (l.getD i z41) with
        | true =>
          rw [if_pos rfl]
          refine Ev.step (fun k => ?_) (sets_loop l hn d (i + 1) (acc ++ [l.getD i z41]) (by omega) (by simp; omega))
          simp only [kimberlitelaw01_sets.j2]
          rw [if_pos (by trivial), if_pos (by omega), if_pos (by omega), if_pos (by omega), rd_nat, wrap_succ hi hn]
        | false =>
          rw [if_neg (by decide)]
          refine Ev.step (fun k => ?_) (sets_loop l hn d (i + 1) acc (by omega) ha)
          simp only [kimberlitelaw01_sets.j2]
          rw [if_neg (by decide), wrap_succ hi hn]
    · unfold pick60
      rw [if_neg h60]
      refine Ev.step (f := fun k => kimberlitelaw01_sets.j1 k l acc (i : Int) false) (fun k => by simp only [kimberlitelaw01_sets.l0]; rw [if_pos (by omega), decide_eq_false (by omega)]) ?_
      refine Ev.step (f := fun k => (span_Of.f k acc).bind fun t => some t.1) (fun k => by simp only [kimberlitelaw01_sets.j1]; rw [if_neg (by decide)]) ?_
      exact Ev.bind (spanOf_ev acc) (Ev.now _)
def setsL (l : List S41) : List S41 := ofL (pick60 l [])
theorem sets_ev (l : List S41) (hn : l.length ≤ 9223372036854775807) : Ev (fun k => kimberlitelaw01_sets.f k l) (setsL l) ∧ validS (setsL l) = true ∧ (setsL l).length ≤ 60 := by
  obtain ⟨p1, p2⟩ := pick60_spec l [] (by simp) (fun s hs => by cases hs)
  have hl : listR (pick60 l []) = 0 := by
    unfold listR
    rw [if_neg (by omega), if_neg]
    intro h
    obtain ⟨s, hs, h⟩ := List.any_eq_true.1 h
    rw [p2 s hs] at h
    cases h
  have h := sets_loop l hn _ 0 [] rfl (by simp)
  rw [List.drop_zero, ofR, if_pos hl] at h
  have hg : GoodL (pick60 l []) := fun s hs => (goodS_iff s).1 (p2 s hs)
  have h4 := made_few 0 (.inl rfl) hg (show GoodL [] from fun s hs => by cases hs)
  refine ⟨h, ofL_valid hl, ?_⟩
  show (madeL 0 _ []).length ≤ 60
  simp at h4
  omega
theorem twoR_eq (kind : Int) {a b : List S41} (ha : validS a = true) (hb : validS b = true) : twoR kind a b = if (madeL kind a b).length > 128 then ([], 8) else (madeL kind a b, 0) := by
  unfold twoR
  rw [ha, hb]
  rfl
theorem twoR_few (kind : Int) (hk : kind = 0 ∨ kind = 1 ∨ kind = 2) {a b : List S41} (ha : validS a = true) (hb : validS b = true) (hl : a.length + b.length ≤ 128) : twoR kind a b = (madeL kind a b, 0) ∧ validS (madeL kind a b) = true ∧ (madeL kind a b).length ≤ a.length + b.length := by
  have ga := (valid_goodL ha).2
  have gb := (valid_goodL hb).2
  have h1 := made_few kind hk ga gb
  rw [twoR_eq kind ha hb, if_neg (by omega)]
  exact ⟨rfl, valid_of_asc (by omega) (made_spec kind a b (good_two ga gb)).1, h1⟩
theorem vGood {a : List S41} (h : validS a = true) : GoodL a := (valid_goodL h).2
theorem made_mem (k : Int) {a b : List S41} (ha : validS a = true) (hb : validS b = true) (x : Int) : memS (madeL k a b) x = keepsB k (memS a x) (memS b x) := (made_spec k a b (good_two (vGood ha) (vGood hb))).2 x
/-- The law's own has answers b. -/
def HasIs (l : List S41) (x : Int) (b : Bool) : Prop := ∃ k, kimberlitelaw01_has.f k l x = some b
theorem has_is {l : List S41} (h : validS l = true) (x : Int) : HasIs l x (memS l x) := by
  have hl := (valid_goodL h).1
  have e : hasR l x = (memS l x, 0) := by unfold hasR; rw [if_pos h]; rfl
  have h1 := spanHas_ev l x (by omega)
  rw [e] at h1
  obtain ⟨k, hk⟩ := h1.rounds
  refine ⟨k, ?_⟩
  unfold kimberlitelaw01_has.f
  rw [hk, Option.bind_some]
  cases memS l x <;> rfl
theorem has_at (A : Option Addr) (c : Nat) (l : List S41) (x : Int) (b : Bool) (w : World) (hr : Kd.C k41 w A l.length l) (hc : l.length ≤ c) (h : HasIs l x b) : Calls Tryz.prog 18 #[.slice A l.length c, .int .i64 x] w fun e w' => e = .returned (.bool b) ∧ Below w.heap.size w w' := by
  obtain ⟨k, hk⟩ := h
  exact kimberlitelaw01_has.calls k A c l x b w hr hc hk
end Go.Proofs.YtmomcbhgggggnaaGreatDoor.Pr
end
section
namespace Go.Proofs.YtmomcbhgggggnaaGreatDoor.Pr
open Go.Lib
set_option linter.unusedVariables false
set_option linter.unusedSimpArgs false
theorem dig_nat (d : Nat) (h : d < 10) : (UInt8.ofNat (48 + d)).toNat = 48 + d := by
  rw [UInt8.toNat_ofNat']
  exact Nat.mod_eq_of_lt (by omega)
theorem dec_bytes (u : Nat) : ∀ b ∈ decDigits u, 48 ≤ b.toNat ∧ b.toNat ≤ 57 := by
  induction u using Nat.strongRecOn with
  | _ u ih =>
    intro b hb
    rw [decDigits] at hb
    by_cases h : u < 10
    · rw [dif_pos h, List.mem_singleton] at hb
      subst hb
      rw [dig_nat u h]
      omega
    · rw [dif_neg h, List.mem_append, List.mem_singleton] at hb
      rcases hb with hb | rfl
      · exact ih (u / 10) (by omega) b hb
      · rw [dig_nat (u % 10) (by omega)]
        omega
theorem dec_ne (u : Nat) : decDigits u ≠ [] := by
  rw [decDigits]
  by_cases h : u < 10
  · rw [dif_pos h]; simp
  · rw [dif_neg h]; simp
theorem parse_append (m : List UInt8) : ∀ (l : List UInt8) (acc : Nat), parseUint10 acc (l ++ m) = match parseUint10 acc l with | .ok v => parseUint10 v m | x => x
  | [], acc => rfl
  | c :: r, acc => by
    have ih := parse_append m r
    rw [List.cons_append]
    simp only [parseUint10]
    split
    · split
      · rfl
      · split
        · rfl
        · exact ih _
    · rfl
theorem parse_dec (u : Nat) (hu : u < 18446744073709551616) : parseUint10 0 (decDigits u) = .ok u := by
  induction u using Nat.strongRecOn with
  | _ u ih =>
    rw [decDigits]
    by_cases h : u < 10
    · rw [dif_pos h]
      simp only [parseUint10]
      rw [dig_nat u h, if_pos (by omega), if_neg (by omega), if_neg (by omega)]
      congr 1
      omega
    · rw [dif_neg h, parse_append, ih (u / 10) (by omega) (by omega)]
      simp only [parseUint10]
      rw [dig_nat (u % 10) (by omega), if_pos (by omega), if_neg (by omega), if_neg (by omega)]
      congr 1
      omega
theorem atoi_itoa (n : Int) (h0 : -9223372036854775808 ≤ n) (h1 : n ≤ 9223372036854775807) : atoiAll (itoa n) = .ok n := by
  unfold itoa
  by_cases h : n < 0
  · rw [if_pos h]
    have hp : parseMag (decDigits n.natAbs) = .ok n.natAbs := by
      unfold parseMag
      rw [if_neg (dec_ne _)]
      exact parse_dec _ (by omega)
    have e : (45 : UInt8).toNat = 45 := rfl
    simp only [atoiAll, e]
    rw [if_pos (Or.inr trivial), hp]
    simp only
    rw [if_neg (by simp), if_neg (by omega), if_pos trivial]
    congr 1
    omega
  · rw [if_neg h]
    have hp : parseMag (decDigits n.toNat) = .ok n.toNat := by
      unfold parseMag
      rw [if_neg (dec_ne _)]
      exact parse_dec _ (by omega)
    have hb := dec_bytes n.toNat
    cases hd : decDigits n.toNat with
    | nil => exact absurd hd (dec_ne _)
    | cons c r =>
      have hc := hb c (by rw [hd]; exact List.mem_cons_self)
      rw [hd] at hp
      simp only [atoiAll]
      rw [if_neg (by omega), hp]
      simp only
      rw [if_neg (by omega), if_neg (by omega), if_neg (by omega)]
      congr 1
      omega
theorem itoa_no (n : Int) : ∀ b ∈ itoa n, b ≠ 32 ∧ b ≠ 46 := by
  intro b hb
  unfold itoa at hb
  have hd : ∀ u, b ∈ decDigits u → b ≠ 32 ∧ b ≠ 46 := fun u hu => by
    have := dec_bytes u b hu
    constructor
    · rintro rfl
      simp at this
    · rintro rfl
      simp at this
  split at hb
  · rcases List.mem_cons.1 hb with rfl | hb
    · exact ⟨by decide, by decide⟩
    · exact hd _ hb
  · exact hd _ hb
theorem index_miss (c : UInt8) : ∀ w : List UInt8, (∀ b ∈ w, b ≠ c) → index w [c] = -1
  | [], _ => rfl
  | b :: l, h => by
    have ih := index_miss c l fun x hx => h x (List.mem_cons_of_mem _ hx)
    have hb := h b List.mem_cons_self
    have e : [c].isPrefixOf (b :: l) = false := by
      simp [List.isPrefixOf]
      exact fun e => hb e.symm
    unfold index
    rw [e, ih]
    rfl
theorem index_hit (c : UInt8) (r : List UInt8) : ∀ w : List UInt8, (∀ b ∈ w, b ≠ c) → index (w ++ c :: r) [c] = (w.length : Int)
  | [], _ => by
    rw [List.nil_append]
    unfold index
    rw [if_pos (by simp [List.isPrefixOf])]
    rfl
  | b :: l, h => by
    have ih := index_hit c r l fun x hx => h x (List.mem_cons_of_mem _ hx)
    have hb := h b List.mem_cons_self
    have e : [c].isPrefixOf (b :: (l ++ c :: r)) = false := by
      simp [List.isPrefixOf]
      exact fun e => hb e.symm
    rw [List.cons_append]
    unfold index
    rw [e, ih, if_neg (by simp), if_neg (by rw [beq_iff_eq]; omega), List.length_cons]
    omega
theorem index_two (c : UInt8) (r : List UInt8) : ∀ w : List UInt8, (∀ b ∈ w, b ≠ c) → index (w ++ c :: c :: r) [c, c] = (w.length : Int)
  | [], _ => by
    rw [List.nil_append]
    unfold index
    rw [if_pos (by simp [List.isPrefixOf])]
    rfl
  | b :: l, h => by
    have ih := index_two c r l fun x hx => h x (List.mem_cons_of_mem _ hx)
    have hb := h b List.mem_cons_self
    have e : [c, c].isPrefixOf (b :: (l ++ c :: c :: r)) = false := by
      simp [List.isPrefixOf]
      exact fun e => absurd e.symm hb
    rw [List.cons_append]
    unfold index
    rw [e, ih, if_neg (by simp), if_neg (by rw [beq_iff_eq]; omega), List.length_cons]
    omega
theorem cut_two (x y : List UInt8) (h : ∀ b ∈ x, b ≠ 46) : cut (x ++ 46 :: 46 :: y) [46, 46] = (x, y, true) := by
  have e := index_two 46 y x h
  unfold cut
  rw [e, if_pos (by omega), Int.toNat_natCast, List.take_left' rfl]
  have ed : (x ++ 46 :: 46 :: y).drop (x.length + 2) = y := by
    rw [List.drop_append]
    simp
  exact congrArg (fun z => (x, z, true)) ed
theorem join_two (w v : List UInt8) (t : List (List UInt8)) (sep : List UInt8) : join (w :: v :: t) sep = w ++ (sep ++ join (v :: t) sep) := by
  rw [join_cons, join_cons]
  unfold joinTail
  rw [List.map_cons, List.flatten_cons, List.append_assoc]
/-- Words without blanks, joined by blanks, are split again. -/
theorem split_join : ∀ ws : List (List UInt8), ws ≠ [] → (∀ w ∈ ws, ∀ b ∈ w, b ≠ 32) → split (join ws [32]) [32] = ws
  | [], h, _ => absurd rfl h
  | [w], _, h => by
    have e := index_miss 32 w (h w List.mem_cons_self)
    rw [join_one]
    unfold split
    rw [count_miss e]
    rfl
  | w :: v :: t, _, h => by
    have ih := split_join (v :: t) (by simp) fun x hx => h x (List.mem_cons_of_mem _ hx)
    have e := index_hit 32 (join (v :: t) [32]) w (h w List.mem_cons_self)
    have ed : (w ++ 32 :: join (v :: t) [32]).drop (w.length + [(32 : UInt8)].length) = join (v :: t) [32] := by
      rw [List.drop_append]
      simp
    rw [join_two, List.cons_append, List.nil_append]
    unfold split at ih ⊢
    rw [count_hit (by simp) e, ed, Nat.add_comm]
    unfold splitK
    rw [if_neg (by rw [e, beq_iff_eq]; omega), e, Int.toNat_natCast, ed, ih, Nat.add_zero, List.take_left' rfl]
end Go.Proofs.YtmomcbhgggggnaaGreatDoor.Pr
end
section
namespace Go.Proofs.YtmomcbhgggggnaaGreatDoor.Pr
open Go.RowKit Go.Proofs.YtmomcbhgggggnaaGreatDoorW.PrintWords Go.Proofs.YtmomcbhgggggnaaGreatDoorW.PrintLast Go.Proofs.YtmomcbhgggggnaaGreatDoorW.PrintMore
set_option linter.unusedVariables false
set_option linter.unusedSimpArgs false
/-- A world in which all that lay in w still lies. -/
structure Bel (w : World) where
  W : World
  h : Below w.heap.size w W
instance (w : World) : Nonempty (Bel w) := ⟨⟨w, Below.refl _ w⟩⟩
theorem Bel.cell {w : World} {a : Addr} {v : Value} (h : w.cell? a = some v) (p : Bel w) : p.W.cell? a = some v := (p.h.cell (World.block_lt_of_cell? _ _ h)).trans h
end Go.Proofs.YtmomcbhgggggnaaGreatDoor.Pr
end
section
namespace Go.Proofs.YtmomcbhgggggnaaGreatDoor.Pr
open Go.RowKit Go.Lib Go.Proofs.YtmomcbhgggggnaaGreatDoorW.PrintWords Go.Proofs.YtmomcbhgggggnaaGreatDoorW.PrintLast Go.Proofs.YtmomcbhgggggnaaGreatDoorW.PrintMore
set_option linter.unusedVariables false
set_option linter.unusedSimpArgs false
/-- A string of its bytes. -/
def bts (l : List UInt8) : ByteArray := ⟨l.toArray⟩
theorem bts_list (l : List UInt8) : (bts l).toList = l := by rw [toList_data]; rfl
theorem bts_size (l : List UInt8) : (bts l).size = l.length := rfl
theorem bts_app (a b : List UInt8) : bts a ++ bts b = bts (a ++ b) := by
  apply ByteArray.ext
  rw [ByteArray.data_append]
  unfold bts
  simp
theorem bts_of (s : ByteArray) : bts s.toList = s := by
  rw [toList_data]
  rfl
end Go.Proofs.YtmomcbhgggggnaaGreatDoor.Pr
end
section
namespace Go.Proofs.YtmomcbhgggggnaaGreatDoor.Pr
open Go.RowKit Go.Shelf Go.Proofs.YtmomcbhgggggnaaGreatDoorW.PrintWords Go.Proofs.YtmomcbhgggggnaaGreatDoorW.PrintLast Go.Proofs.YtmomcbhgggggnaaGreatDoorW.PrintMore
set_option linter.unusedVariables false
set_option linter.unusedSimpArgs false
/-- The library's variables read asx they were laid. -/
structure LaidAt (w : World) : Prop where
  len : ∃ m, w.cell? ⟨0, 0, none⟩ = some (.int .i64 m)
  syn : ∃ te pe, w.cell? ⟨1, 0, none⟩ = some (.iface te pe)
  ran : ∃ te pe, w.cell? ⟨2, 0, none⟩ = some (.iface te pe)
  tab : Lib.TabIs Tryz.prog w "internal/strconv.uint64pow10" .u64 Lib.pow10Tab
theorem laid_cell {w w' : World} {a : Addr} {v : Value} (hb : Below w.heap.size w w') (h : w.cell? a = some v) : w'.cell? a = some v := (hb.cell (World.block_lt_of_cell? _ _ h)).trans h
theorem LaidAt.below {w w' : World} (h : LaidAt w) (hb : Below w.heap.size w w') : LaidAt w' where
  len := h.len.imp fun _ e => laid_cell hb e
  syn := h.syn.imp fun _ => .imp fun _ e => laid_cell hb e
  ran := h.ran.imp fun _ => .imp fun _ e => laid_cell hb e
  tab := Lib.tabBelow_of_tabIs h.tab w' hb
theorem laid_at {w W0 W : World} (H : Aside0 (LaidAt w)) (HB : Aside0 (Below w.heap.size w W0)) (hh : Below w.heap.size w W0 → Below w.heap.size w W := by intro h; repeat (first | (with_reducible first | exact h | apply below_alloc | apply pw_below_drewN | apply below_drew1) | exact h)) : LaidAt W := H.out.below (hh HB.out)
def strconv_Itoa.f (n : Int) : Option ByteArray := if -9223372036854775808 ≤ n ∧ n ≤ 9223372036854775807 then some ⟨(Lib.itoa n).toArray⟩ else none
theorem strconv_Itoa.calls (n : Int) (r : ByteArray) (w : World) (h : strconv_Itoa.f n = some r) (hl : LaidAt w := by first | exact laid_at (by assumption) (by assumption)) :
    Calls Tryz.prog 23 #[.int .i64 n] w fun e w' => e = .returned (.string r) ∧ Below w.heap.size w w' := by
  unfold strconv_Itoa.f at h
  split at h
  · rename_i hn
    injection h with h
    subst h
    refine (Tryz.strconv_Itoa n hn.1 hn.2 w hl.tab).mono ?_
    rintro e w' ⟨rfl, k, os, rfl⟩
    exact ⟨rfl, Lib.below_grow _ w (Nat.le_refl _) k os⟩
  · cases h
def strings_Join.f (xs : List ByteArray) (sep : ByteArray) : Option ByteArray := if xs.length ≤ 140737488355328 ∧ (Lib.join (xs.map (·.data.toList)) sep.data.toList).length ≤ 140737488355328 then some ⟨(Lib.join (xs.map (·.data.toList)) sep.data.toList).toArray⟩ else none
theorem strings_Join.calls (A0 : Option Addr) (c0 : Nat) (l0 : List ByteArray) (a1 : ByteArray) (r : ByteArray) (w : World) (hr0 : Kd.C Kd.string w A0 l0.length l0) (hc0 : l0.length ≤ c0) (h : strings_Join.f l0 a1 = some r) :
    Calls Tryz.prog 24 #[.slice A0 l0.length c0, .string a1] w fun e w' => e = .returned (.string r) ∧ Below w.heap.size w w' := by
  unfold strings_Join.f at h
  split at h
  · rename_i hn
    injection h with h
    subst h
    rcases Nat.eq_zero_or_pos l0.length with h0 | h0
    · obtain rfl : l0 = [] := List.eq_nil_of_length_eq_zero h0
      refine (Tryz.strings_Join_none A0 c0 a1 w).mono ?_
      rintro e w' ⟨rfl, rfl⟩
      exact ⟨rfl, Below.refl _ _⟩
    · obtain ⟨ad, rfl, hx⟩ := hr0.2.2 h0
      have hcell : ∀ (j : Nat) x, l0[j]? = some x → w.cell? (ad.add (j * 1)) = some (.string x) := fun j x hj => by
        obtain ⟨c, hcl, hK, hcc⟩ := hx j x hj
        have hc : c = [.string x] := hK
        subst hc
        have := hcc 0 _ rfl
        simpa [Kd.string, Kd.scalar] using this
      have hs : ad.spot = none := by
        have h1 := hcell 0 _ (List.getElem?_eq_getElem h0)
        unfold World.cell? Addr.add at h1
        rcases hsp : ad.spot with _ | q
        · rfl
        · simp only [hsp] at h1
          split at h1
          · simp at h1
            exact hsp.symm.trans h1.1
          · cases h1
      obtain ⟨bk, o, sp⟩ := ad
      simp only at hs
      subst hs
      have hbk : bk < w.heap.size := by
        have h1 := hcell 0 _ (List.getElem?_eq_getElem h0)
        exact World.block_lt_of_cell? _ _ h1
      exact Tryz.strings_Join bk o c0 l0 a1 w (fun j x hj => by
        have := hcell j x hj
        rcases j with _ | j
        · simpa [Addr.add] using this
        · simpa [Addr.add] using this) hbk hn.1 hc0 hn.2
  · cases h
end Go.Proofs.YtmomcbhgggggnaaGreatDoor.Pr
end
