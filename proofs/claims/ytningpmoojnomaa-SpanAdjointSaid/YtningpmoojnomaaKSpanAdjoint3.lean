/- What the proof of the law needs, trimmed and merged by wip/pack.py out of the texts YtningpmoojnomaaPrx32, YtningpmoojnomaaAlg, YtningpmoojnomaaPie, YtningpmoojnomaaAdj, YtningpmoojnomaaPrx1, YtningpmoojnomaaPrx4, YtningpmoojnomaaExtOwn. No condition. -/
import Derived.Lib.SlicesCompact
import Derived.Test.YtningpmoojnomaaKSpanAdjoint0
import Derived.Test.YtningpmoojnomaaKSpanAdjoint1
import Derived.Test.YtningpmoojnomaaKSpanAdjoint2
section
namespace Go.Proofs.Ytningpmoojnomaa.Pr
open Go.RowKit Go.Proofs.YtningpmoojnomaaW.PrintWords Go.Proofs.YtningpmoojnomaaW.PrintLast Go.Proofs.YtningpmoojnomaaW.PrintMore
attribute [local go_sem] max2_int min2_int max_two min_two max_three min_three max_four min_four   -- for this text's walks alone
set_option linter.unusedVariables false
set_option linter.unusedSimpArgs false
mutual
def kimberlitelaw01_sets.l0 : Nat → List (S32) → List (S32) → Int → Option ((List (S32)))
 | 0, _, _, _ => none
 | k + 1, x0, x3, x4 => if x4 < (x0.length : Int) then (kimberlitelaw01_sets.j1 k x0 x3 x4 (decide ((x3.length : Int) < 60))) else (kimberlitelaw01_sets.j1 k x0 x3 x4 false)
def kimberlitelaw01_sets.j1 : Nat → List (S32) → List (S32) → Int → Bool → Option ((List (S32)))
 | 0, _, _, _, _ => none
 | k + 1, x0, x3, x4, x15 => if x15 = true then (if 0 ≤ x4 then (if x4 < (x0.length : Int) then (if ((rd_T32 x0 x4).f0) ≥ (-1099511627776) then (if ((rd_T32 x0 x4).f0) < ((rd_T32 x0 x4).f1) then (kimberlitelaw01_sets.j2 k x0 x3 x4 (decide (((rd_T32 x0 x4).f1) ≤ 1099511627776))) else (kimberlitelaw01_sets.j2 k x0 x3 x4 false)) else (kimberlitelaw01_sets.j2 k x0 x3 x4 false)) else (none)) else (none)) else ((span_Of.f k x3).bind fun bt474 => (some bt474.1))
def kimberlitelaw01_sets.j2 : Nat → List (S32) → List (S32) → Int → Bool → Option ((List (S32)))
 | 0, _, _, _, _ => none
 | k + 1, x0, x3, x4, x44 => if x44 = true then (if 0 ≤ x4 then (if x4 < (x0.length : Int) then (if x3.length < 8796093022208 then (kimberlitelaw01_sets.l0 k x0 (x3 ++ [(⟨(rd_T32 x0 x4).f0, (rd_T32 x0 x4).f1⟩ : S32)]) (wrap64 (x4 + 1))) else (none)) else (none)) else (none)) else (kimberlitelaw01_sets.l0 k x0 x3 (wrap64 (x4 + 1)))
end
def kimberlitelaw01_sets.f (k : Nat) (l0 : List (S32)) : Option ((List (S32))) := kimberlitelaw01_sets.l0 k l0 ([] : List (S32)) 0
theorem kimberlitelaw01_sets.mono_l : ∀ k, (∀ y0 y1 y2, LeO (kimberlitelaw01_sets.l0 k y0 y1 y2) (kimberlitelaw01_sets.l0 (k + 1) y0 y1 y2)) ∧ (∀ y0 y1 y2 y3, LeO (kimberlitelaw01_sets.j1 k y0 y1 y2 y3) (kimberlitelaw01_sets.j1 (k + 1) y0 y1 y2 y3)) ∧ (∀ y0 y1 y2 y3, LeO (kimberlitelaw01_sets.j2 k y0 y1 y2 y3) (kimberlitelaw01_sets.j2 (k + 1) y0 y1 y2 y3))
 | 0 => ⟨fun _ _ _ r h => by simp [kimberlitelaw01_sets.l0] at h, fun _ _ _ _ r h => by simp [kimberlitelaw01_sets.j1] at h, fun _ _ _ _ r h => by simp [kimberlitelaw01_sets.j2] at h⟩
 | k + 1 => by
  obtain ⟨ih0, ih1, ih2⟩ := kimberlitelaw01_sets.mono_l k
  refine ⟨?_, ?_, ?_⟩
  · intro y0 y1 y2
    unfold kimberlitelaw01_sets.l0
    repeat' first
    | (with_reducible exact ih0 _ _ _)
    | (with_reducible exact ih1 _ _ _ _)
    | (with_reducible exact ih2 _ _ _ _)
    | (with_reducible exact span_Of.mono _ _)
    | (with_reducible exact LeO.refl _)
    | (with_reducible exact LeO.none _)
    | (with_reducible refine LeO.ite ?_ ?_)
    | (with_reducible refine LeO.bind ?_ (fun _ => ?_))
    | exact ih0 _ _ _
    | exact ih1 _ _ _ _
    | exact ih2 _ _ _ _
    | exact span_Of.mono _ _
    | exact LeO.none _
    | refine LeO.ite ?_ ?_
    | refine LeO.bind ?_ (fun _ => ?_)
  · intro y0 y1 y2 y3
    unfold kimberlitelaw01_sets.j1
    repeat' first
    | (with_reducible exact ih0 _ _ _)
    | (with_reducible exact ih1 _ _ _ _)
    | (with_reducible exact ih2 _ _ _ _)
    | (with_reducible exact span_Of.mono _ _)
    | (with_reducible exact LeO.refl _)
    | (with_reducible exact LeO.none _)
    | (with_reducible refine LeO.ite ?_ ?_)
    | (with_reducible refine LeO.bind ?_ (fun _ => ?_))
    | exact ih0 _ _ _
    | exact ih1 _ _ _ _
    | exact ih2 _ _ _ _
    | exact span_Of.mono _ _
    | exact LeO.none _
    | refine LeO.ite ?_ ?_
    | refine LeO.bind ?_ (fun _ => ?_)
  · intro y0 y1 y2 y3
    unfold kimberlitelaw01_sets.j2
    repeat' first
    | (with_reducible exact ih0 _ _ _)
    | (with_reducible exact ih1 _ _ _ _)
    | (with_reducible exact ih2 _ _ _ _)
    | (with_reducible exact span_Of.mono _ _)
    | (with_reducible exact LeO.refl _)
    | (with_reducible exact LeO.none _)
    | (with_reducible refine LeO.ite ?_ ?_)
    | (with_reducible refine LeO.bind ?_ (fun _ => ?_))
    | exact ih0 _ _ _
    | exact ih1 _ _ _ _
    | exact ih2 _ _ _ _
    | exact span_Of.mono _ _
    | exact LeO.none _
    | refine LeO.ite ?_ ?_
    | refine LeO.bind ?_ (fun _ => ?_)
theorem kimberlitelaw01_sets.mono : ∀ a0 k, LeO (kimberlitelaw01_sets.f k a0) (kimberlitelaw01_sets.f (k + 1) a0) := by
 intro a0 k
 obtain ⟨ih0, ih1, ih2⟩ := kimberlitelaw01_sets.mono_l k
 unfold kimberlitelaw01_sets.f
 repeat' first
  | (with_reducible exact ih0 _ _ _)
  | (with_reducible exact ih1 _ _ _ _)
  | (with_reducible exact ih2 _ _ _ _)
  | (with_reducible exact span_Of.mono _ _)
  | (with_reducible exact LeO.refl _)
  | (with_reducible exact LeO.none _)
  | (with_reducible refine LeO.ite ?_ ?_)
  | (with_reducible refine LeO.bind ?_ (fun _ => ?_))
  | exact ih0 _ _ _
  | exact ih1 _ _ _ _
  | exact ih2 _ _ _ _
  | exact span_Of.mono _ _
  | exact LeO.none _
  | refine LeO.ite ?_ ?_
  | refine LeO.bind ?_ (fun _ => ?_)
set_option maxHeartbeats 8000000 in
set_option maxRecDepth 100000 in
theorem kimberlitelaw01_sets.calls (k : Nat) (A0 : Option Addr) (c0 : Nat) (l0 : List (S32)) (r : List (S32)) (w : World) (hr0 : Kd.C k32 w A0 l0.length l0) (hc0 : l0.length ≤ c0) (h : kimberlitelaw01_sets.f k l0 = some r) :
 Calls Try.prog 56 #[.slice A0 l0.length c0] w fun e w' => ∃ v0_ : Value, e = .returned (v0_) ∧ Kd.R k32 32 w' w.heap.size (fun _ => True) v0_ r ∧ Below w.heap.size w w' := by
 have hu32 := Try.underlying32
 have HR0 := Aside0.mk hr0
 have HC0 := Aside0.mk hc0
 clear hr0 hc0
 have HB := Aside0.mk (Below.refl w.heap.size w)
 have H : (kimberlitelaw01_sets.l0 k l0 ([] : List (S32)) 0) = some r := h
 clear h
 have H' := Aside0.mk H
 clear H
 go_enter Try.func56, Try.ntmps56
 go_wp2
 repeat (go_quiet (fail); try go_wp2)
 go_loopg [3, 4] k (fun kq v3 v4 w' => ∃ (x3_1 : List (S32)) (x4_1 : Int), v4 = .int .i64 x4_1 ∧ Aside0 (kimberlitelaw01_sets.l0 kq l0 x3_1 x4_1 = some r) ∧ Aside0 (kq ≤ k) ∧ Aside0 (Kd.R k32 32 w' w.heap.size (fun _ => True) v3 x3_1) ∧ Aside0 (Below w.heap.size w w'))
 case atStart => exact ⟨(([] : List (S32))), (0), (by first | rfl | (simp; done) | (simp [*]; done)), H', ⟨Nat.le_refl _⟩, ⟨by first | exact Kd.R_nil _ _ _ _ _ | exact Kd.N_nil _ _ _ _ _ | exact Kd.V_nil _ _ _ _ _ | exact Kd.Q_nil _ _ _ _ _ | exact Kd.S_nil _ _ _ _ _⟩, ⟨by repeat (first | (with_reducible first | exact HB.out | apply below_alloc | apply pw_below_drewN | apply below_drew1) | exact HB.out)⟩⟩
 case round =>
  clear H'
  obtain ⟨x3_1, x4_1, rfl, HA, HK1, HO_3, HB⟩ := hrel
  cases gk with
  | zero => exact absurd HA.out (by simp [kimberlitelaw01_sets.l0])
  | succ k1 =>
   have H := HA.out
   clear HA
   simp only [kimberlitelaw01_sets.l0] at H
   have HC2 := Aside0.mk H
   clear H
   go_upto_region 3 with (fail)
   repeat (go_quiet (fail); go_upto_region 3 with (fail))
   go_cut [15] (fun v15 wc => ∃ (kq : Nat) (x15_1 : Bool), v15 = .bool x15_1 ∧ Aside0 (kimberlitelaw01_sets.j1 kq l0 x3_1 x4_1 x15_1 = some r) ∧ Aside0 (kq ≤ k1) ∧ Aside0 (Kd.R k32 32 wc w.heap.size (fun _ => True) u3 x3_1) ∧ Aside0 (Below w.heap.size w wc))
   case first =>
    have H := HC2.out
    clear HC2
    by_cases c3 : x4_1 < (l0.length : Int)
    · rw [if_pos c3] at H
      have c3b0 : decide (x4_1 < (l0.length : Int)) = true := decide_eq_true c3
      clear c3
      (first | rw [c3b0] | (simp only [i64_w, i32_w]; rw [c3b0]) | skip)
      have H' := Aside0.mk H
      clear H
      obtain ⟨Ao4, co4, eo4⟩ := Kd.R_slice HO_3.out
      subst eo4
      go_wp2
      repeat (go_quiet (fail); try go_wp2)
      go_meet
      case rel => exact ⟨_, (decide ((x3_1.length : Int) < 60)), (by first | rfl | (simp; done) | (simp [*]; done)), H', ⟨by have := HK1.out; first | omega | exact Nat.le_refl _⟩, ⟨by (with_reducible repeat (first | apply Kd.R_alloc | apply Kd.R_drewN | apply Kd.R_drew)); exact HO_3.out⟩, ⟨by repeat (first | (with_reducible first | exact HB.out | apply below_alloc | apply pw_below_drewN | apply below_drew1) | exact HB.out)⟩⟩
    · rw [if_neg c3] at H
      have c3b0 : decide (x4_1 < (l0.length : Int)) = false := decide_eq_false c3
      clear c3
      (first | rw [c3b0] | (simp only [i64_w, i32_w]; rw [c3b0]) | skip)
      have H' := Aside0.mk H
      clear H
      go_wp2
      repeat (go_quiet (fail); try go_wp2)
      go_meet
      case rel => exact ⟨_, (false), (by first | rfl | (simp; done) | (simp [*]; done)), H', ⟨by have := HK1.out; first | omega | exact Nat.le_refl _⟩, ⟨by (with_reducible repeat (first | apply Kd.R_alloc | apply Kd.R_drewN | apply Kd.R_drew)); exact HO_3.out⟩, ⟨by repeat (first | (with_reducible first | exact HB.out | apply below_alloc | apply pw_below_drewN | apply below_drew1) | exact HB.out)⟩⟩
   case rest =>
    clear HC2
    try clear p2
    try clear c3
    try clear c3b0
    obtain ⟨kq, x15_1, rfl, HA, HJ1, HO_3, HB⟩ := hcut
    cases kq with
    | zero => exact absurd HA.out (by simp [kimberlitelaw01_sets.j1])
    | succ kj1 =>
     have H := HA.out
     clear HA
     simp only [kimberlitelaw01_sets.j1] at H
     by_cases c5 : x15_1 = true
     · subst c5
       have H1 : (if 0 ≤ x4_1 then (if x4_1 < (l0.length : Int) then (if ((rd_T32 l0 x4_1).f0) ≥ (-1099511627776) then (if ((rd_T32 l0 x4_1).f0) < ((rd_T32 l0 x4_1).f1) then (kimberlitelaw01_sets.j2 kj1 l0 x3_1 x4_1 (decide (((rd_T32 l0 x4_1).f1) ≤ 1099511627776))) else (kimberlitelaw01_sets.j2 kj1 l0 x3_1 x4_1 false)) else (kimberlitelaw01_sets.j2 kj1 l0 x3_1 x4_1 false)) else (none)) else (none)) = some r := by rw [if_pos rfl] at H; exact H
       clear H
       have H := H1
       clear H1
       have HC6 := Aside0.mk H
       clear H
       go_upto_region 5 with (fail)
       repeat (go_quiet (fail); go_upto_region 5 with (fail))
       go_cut [44] (fun v44 wc => ∃ (kq : Nat) (x44_5 : Bool), v44 = .bool x44_5 ∧ Aside0 (kimberlitelaw01_sets.j2 kq l0 x3_1 x4_1 x44_5 = some r) ∧ Aside0 (kq ≤ kj1) ∧ Aside0 (Kd.R k32 32 wc w.heap.size (fun _ => True) u3 x3_1) ∧ Aside0 (Below w.heap.size w wc))
       case first =>
        have H := HC6.out
        clear HC6
        by_cases c7 : 0 ≤ x4_1
        · rw [if_pos c7] at H
          have c7b0 : decide (0 ≤ x4_1) = true := decide_eq_true c7
          clear c7
          (first | rw [c7b0] | (simp only [i64_w, i32_w]; rw [c7b0]) | skip)
          by_cases c8 : x4_1 < (l0.length : Int)
          · rw [if_pos c8] at H
            have c8b0 : decide (x4_1 < (l0.length : Int)) = true := decide_eq_true c8
            clear c8
            by_cases c9 : ((rd_T32 l0 x4_1).f0) ≥ (-1099511627776)
            · rw [if_pos c9] at H
              have c9b0 : decide ((-1099511627776) ≤ ((rd_T32 l0 x4_1).f0)) = true := decide_eq_true c9
              clear c9
              by_cases c10 : ((rd_T32 l0 x4_1).f0) < ((rd_T32 l0 x4_1).f1)
              · rw [if_pos c10] at H
                have c10b0 : decide (((rd_T32 l0 x4_1).f0) < ((rd_T32 l0 x4_1).f1)) = true := decide_eq_true c10
                clear c10
                have H' := Aside0.mk H
                clear H
                have p466 : 0 ≤ (x4_1 : Int) := of_decide_eq_true (by first | (with_reducible assumption) | assumption)
                have q466 : x4_1 < (l0.length : Int) := of_decide_eq_true (by first | (with_reducible assumption) | assumption)
                obtain ⟨ad466, e466, hx466_0, hx466_1⟩ := at_T32 HR0.out x4_1 p466 q466
                cases e466
                replace hx466_0 := (HB.out.cell (World.block_lt_of_cell? w _ hx466_0)).trans hx466_0
                replace hx466_1 := (HB.out.cell (World.block_lt_of_cell? w _ hx466_1)).trans hx466_1
                replace p466 := eq_true p466
                replace q466 := eq_true q466
                have p467 : 0 ≤ (x4_1 : Int) := of_decide_eq_true (by first | (with_reducible assumption) | assumption)
                have q467 : x4_1 < (l0.length : Int) := of_decide_eq_true (by first | (with_reducible assumption) | assumption)
                obtain ⟨ad467, e467, hx467_0, hx467_1⟩ := at_T32 HR0.out x4_1 p467 q467
                obtain rfl : ad466 = ad467 := (by injection e467)
                replace hx467_0 := (HB.out.cell (World.block_lt_of_cell? w _ hx467_0)).trans hx467_0
                replace hx467_1 := (HB.out.cell (World.block_lt_of_cell? w _ hx467_1)).trans hx467_1
                replace p467 := eq_true p467
                replace q467 := eq_true q467
                have p468 : 0 ≤ (x4_1 : Int) := of_decide_eq_true (by first | (with_reducible assumption) | assumption)
                have q468 : x4_1 < (l0.length : Int) := of_decide_eq_true (by first | (with_reducible assumption) | assumption)
                obtain ⟨ad468, e468, hx468_0, hx468_1⟩ := at_T32 HR0.out x4_1 p468 q468
                obtain rfl : ad466 = ad468 := (by injection e468)
                replace hx468_0 := (HB.out.cell (World.block_lt_of_cell? w _ hx468_0)).trans hx468_0
                replace hx468_1 := (HB.out.cell (World.block_lt_of_cell? w _ hx468_1)).trans hx468_1
                replace p468 := eq_true p468
                replace q468 := eq_true q468
                have p469 : 0 ≤ (x4_1 : Int) := of_decide_eq_true (by first | (with_reducible assumption) | assumption)
                have q469 : x4_1 < (l0.length : Int) := of_decide_eq_true (by first | (with_reducible assumption) | assumption)
                obtain ⟨ad469, e469, hx469_0, hx469_1⟩ := at_T32 HR0.out x4_1 p469 q469
                obtain rfl : ad466 = ad469 := (by injection e469)
                replace hx469_0 := (HB.out.cell (World.block_lt_of_cell? w _ hx469_0)).trans hx469_0
                replace hx469_1 := (HB.out.cell (World.block_lt_of_cell? w _ hx469_1)).trans hx469_1
                replace p469 := eq_true p469
                replace q469 := eq_true q469
                go_wp2
                repeat (go_quiet (fail); try go_wp2)
                go_meet
                case rel => exact ⟨_, (decide (((rd_T32 l0 x4_1).f1) ≤ 1099511627776)), (by first | rfl | (simp; done) | (simp [*]; done)), H', ⟨by have := HK1.out; have := HJ1.out; first | omega | exact Nat.le_refl _⟩, ⟨by (with_reducible repeat (first | apply Kd.R_alloc | apply Kd.R_drewN | apply Kd.R_drew)); exact HO_3.out⟩, ⟨by repeat (first | (with_reducible first | exact HB.out | apply below_alloc | apply pw_below_drewN | apply below_drew1) | exact HB.out)⟩⟩
              · rw [if_neg c10] at H
                have c10b0 : decide (((rd_T32 l0 x4_1).f0) < ((rd_T32 l0 x4_1).f1)) = false := decide_eq_false c10
                clear c10
                have H' := Aside0.mk H
                clear H
                have p466 : 0 ≤ (x4_1 : Int) := of_decide_eq_true (by first | (with_reducible assumption) | assumption)
                have q466 : x4_1 < (l0.length : Int) := of_decide_eq_true (by first | (with_reducible assumption) | assumption)
                obtain ⟨ad466, e466, hx466_0, hx466_1⟩ := at_T32 HR0.out x4_1 p466 q466
                cases e466
                replace hx466_0 := (HB.out.cell (World.block_lt_of_cell? w _ hx466_0)).trans hx466_0
                replace hx466_1 := (HB.out.cell (World.block_lt_of_cell? w _ hx466_1)).trans hx466_1
                replace p466 := eq_true p466
                replace q466 := eq_true q466
                have p467 : 0 ≤ (x4_1 : Int) := of_decide_eq_true (by first | (with_reducible assumption) | assumption)
                have q467 : x4_1 < (l0.length : Int) := of_decide_eq_true (by first | (with_reducible assumption) | assumption)
                obtain ⟨ad467, e467, hx467_0, hx467_1⟩ := at_T32 HR0.out x4_1 p467 q467
                obtain rfl : ad466 = ad467 := (by injection e467)
                replace hx467_0 := (HB.out.cell (World.block_lt_of_cell? w _ hx467_0)).trans hx467_0
                replace hx467_1 := (HB.out.cell (World.block_lt_of_cell? w _ hx467_1)).trans hx467_1
                replace p467 := eq_true p467
                replace q467 := eq_true q467
                have p468 : 0 ≤ (x4_1 : Int) := of_decide_eq_true (by first | (with_reducible assumption) | assumption)
                have q468 : x4_1 < (l0.length : Int) := of_decide_eq_true (by first | (with_reducible assumption) | assumption)
                obtain ⟨ad468, e468, hx468_0, hx468_1⟩ := at_T32 HR0.out x4_1 p468 q468
                obtain rfl : ad466 = ad468 := (by injection e468)
                replace hx468_0 := (HB.out.cell (World.block_lt_of_cell? w _ hx468_0)).trans hx468_0
                replace hx468_1 := (HB.out.cell (World.block_lt_of_cell? w _ hx468_1)).trans hx468_1
                replace p468 := eq_true p468
                replace q468 := eq_true q468
                go_wp2
                repeat (go_quiet (fail); try go_wp2)
                go_meet
                case rel => exact ⟨_, (false), (by first | rfl | (simp; done) | (simp [*]; done)), H', ⟨by have := HK1.out; have := HJ1.out; first | omega | exact Nat.le_refl _⟩, ⟨by (with_reducible repeat (first | apply Kd.R_alloc | apply Kd.R_drewN | apply Kd.R_drew)); exact HO_3.out⟩, ⟨by repeat (first | (with_reducible first | exact HB.out | apply below_alloc | apply pw_below_drewN | apply below_drew1) | exact HB.out)⟩⟩
            · rw [if_neg c9] at H
              have c9b0 : decide ((-1099511627776) ≤ ((rd_T32 l0 x4_1).f0)) = false := decide_eq_false c9
              clear c9
              have H' := Aside0.mk H
              clear H
              have p466 : 0 ≤ (x4_1 : Int) := of_decide_eq_true (by first | (with_reducible assumption) | assumption)
              have q466 : x4_1 < (l0.length : Int) := of_decide_eq_true (by first | (with_reducible assumption) | assumption)
              obtain ⟨ad466, e466, hx466_0, hx466_1⟩ := at_T32 HR0.out x4_1 p466 q466
              cases e466
              replace hx466_0 := (HB.out.cell (World.block_lt_of_cell? w _ hx466_0)).trans hx466_0
              replace hx466_1 := (HB.out.cell (World.block_lt_of_cell? w _ hx466_1)).trans hx466_1
              replace p466 := eq_true p466
              replace q466 := eq_true q466
              go_wp2
              repeat (go_quiet (fail); try go_wp2)
              go_meet
              case rel => exact ⟨_, (false), (by first | rfl | (simp; done) | (simp [*]; done)), H', ⟨by have := HK1.out; have := HJ1.out; first | omega | exact Nat.le_refl _⟩, ⟨by (with_reducible repeat (first | apply Kd.R_alloc | apply Kd.R_drewN | apply Kd.R_drew)); exact HO_3.out⟩, ⟨by repeat (first | (with_reducible first | exact HB.out | apply below_alloc | apply pw_below_drewN | apply below_drew1) | exact HB.out)⟩⟩
          · rw [if_neg c8] at H
            exact absurd H (by simp)
        · rw [if_neg c7] at H
          exact absurd H (by simp)
       case rest =>
        clear HC6
        try clear c1
        try clear p2
        try clear c3
        try clear c3b0
        try clear p4
        try clear q4
        try clear hx4
        try clear c5
        try clear c7
        try clear c7b0
        try clear c8
        try clear c8b0
        try clear c9
        try clear c9b0
        try clear c10
        try clear c10b0
        try clear hx466_0
        try clear hx466_1
        try clear hx467_0
        try clear hx467_1
        try clear hx468_0
        try clear hx468_1
        try clear hx469_0
        try clear hx469_1
        try clear p2
        try clear p466
        try clear p467
        try clear p468
        try clear p469
        try clear q466
        try clear q467
        try clear q468
        try clear q469
        obtain ⟨kq, x44_5, rfl, HA, HJ5, HO_3, HB⟩ := hcut
        cases kq with
        | zero => exact absurd HA.out (by simp [kimberlitelaw01_sets.j2])
        | succ kj5 =>
         have H := HA.out
         clear HA
         simp only [kimberlitelaw01_sets.j2] at H
         by_cases c11 : x44_5 = true
         · subst c11
           have H1 : (if 0 ≤ x4_1 then (if x4_1 < (l0.length : Int) then (if x3_1.length < 8796093022208 then (kimberlitelaw01_sets.l0 kj5 l0 (x3_1 ++ [(⟨(rd_T32 l0 x4_1).f0, (rd_T32 l0 x4_1).f1⟩ : S32)]) (wrap64 (x4_1 + 1))) else (none)) else (none)) else (none)) = some r := by rw [if_pos rfl] at H; exact H
           clear H
           have H := H1
           clear H1
           by_cases c12 : 0 ≤ x4_1
           · rw [if_pos c12] at H
             have c12b0 : decide (0 ≤ x4_1) = true := decide_eq_true c12
             clear c12
             by_cases c13 : x4_1 < (l0.length : Int)
             · rw [if_pos c13] at H
               have c13b0 : decide (x4_1 < (l0.length : Int)) = true := decide_eq_true c13
               clear c13
               by_cases c14 : x3_1.length < 8796093022208
               · rw [if_pos c14] at H
                 have LMc14 := Aside0.mk c14
                 clear c14
                 obtain ⟨y471, hy471⟩ : ∃ y_ : List (S32), y_ = (x3_1 ++ [(⟨(rd_T32 l0 x4_1).f0, (rd_T32 l0 x4_1).f1⟩ : S32)]) := ⟨_, rfl⟩
                 replace H : (kimberlitelaw01_sets.l0 kj5 l0 y471 (wrap64 (x4_1 + 1))) = some r := by first | (rw [hy471]; with_reducible exact H) | (have H2_ := (Option.bind_some _ _).symm.trans H; rw [hy471]; with_reducible exact H2_) | (have H2_ := (Option.bind_some _ _).symm.trans H; with_reducible exact H2_) | with_reducible exact H | (rw [hy471]; exact H) | exact H
                 have Ny471 := Aside0.mk hy471
                 clear hy471
                 have H' := Aside0.mk H
                 clear H
                 have p470 : 0 ≤ (x4_1 : Int) := of_decide_eq_true (by first | (with_reducible assumption) | assumption)
                 have q470 : x4_1 < (l0.length : Int) := of_decide_eq_true (by first | (with_reducible assumption) | assumption)
                 obtain ⟨ad470, e470, hx470_0, hx470_1⟩ := at_T32 HR0.out x4_1 p470 q470
                 cases e470
                 replace hx470_0 := (HB.out.cell (World.block_lt_of_cell? w _ hx470_0)).trans hx470_0
                 replace hx470_1 := (HB.out.cell (World.block_lt_of_cell? w _ hx470_1)).trans hx470_1
                 replace p470 := eq_true p470
                 replace q470 := eq_true q470
                 go_wp2_with (first | ((with_reducible refine gate_builtin (b := .append) (xs := #[.tmp 45, .tmp 50]) rfl ?_); (try (refine gate_guard (by rfl) ?_; dsimp only)); at_builtin; refine Kd.R_append k32 (w0 := w) w.heap.size rfl (.tmp 45) (.tmp 50) 22 32 (.agg #[(.int .i64 0), (.int .i64 0)]) 16 rfl Try.underlying22 info32 rfl (by decide) (by omega) u3 x3_1 (⟨(rd_T32 l0 x4_1).f0, (rd_T32 l0 x4_1).f1⟩ : S32) [.int .i64 ((rd_T32 l0 x4_1).f0), .int .i64 ((rd_T32 l0 x4_1).f1)] (fun _ => True) (fun _ => False) rfl rfl ?aP (fun _ hk => hk.elim) ?aF ?aO ?aB ?aS ?aL ?_; (case aP => exact k32_mkM _ _ _ (⟨(rd_T32 l0 x4_1).f0, (rd_T32 l0 x4_1).f1⟩ : S32)); (case aB => exact (by repeat (first | (with_reducible first | exact HB.out | apply below_alloc | apply pw_below_drewN | apply below_drew1) | exact HB.out))); (case aF => exact (fun _ _ => trivial)); (case aO => exact (by (with_reducible repeat (first | apply Kd.R_alloc | apply Kd.R_drewN | apply Kd.R_drew)); exact HO_3.out)); (case aS => exact (below_size (by repeat (first | (with_reducible first | exact HB.out | apply below_alloc | apply pw_below_drewN | apply below_drew1) | exact HB.out)))); (case aL => have := LMc14.out; omega); intro v472 w15 ho hb hg hat; rw [← Ny471.out] at ho; have n0_ := Aside0.mk (hb); have n1_ := Aside0.mk (ho); clear HB; clear HO_3; have HB := n0_; have HO473 := n1_; clear n0_ n1_; clear ho hb hg hat))
                 repeat (go_quiet (fail); try go_wp2_with (first | ((with_reducible refine gate_builtin (b := .append) (xs := #[.tmp 45, .tmp 50]) rfl ?_); (try (refine gate_guard (by rfl) ?_; dsimp only)); at_builtin; refine Kd.R_append k32 (w0 := w) w.heap.size rfl (.tmp 45) (.tmp 50) 22 32 (.agg #[(.int .i64 0), (.int .i64 0)]) 16 rfl Try.underlying22 info32 rfl (by decide) (by omega) u3 x3_1 (⟨(rd_T32 l0 x4_1).f0, (rd_T32 l0 x4_1).f1⟩ : S32) [.int .i64 ((rd_T32 l0 x4_1).f0), .int .i64 ((rd_T32 l0 x4_1).f1)] (fun _ => True) (fun _ => False) rfl rfl ?aP (fun _ hk => hk.elim) ?aF ?aO ?aB ?aS ?aL ?_; (case aP => exact k32_mkM _ _ _ (⟨(rd_T32 l0 x4_1).f0, (rd_T32 l0 x4_1).f1⟩ : S32)); (case aB => exact (by repeat (first | (with_reducible first | exact HB.out | apply below_alloc | apply pw_below_drewN | apply below_drew1) | exact HB.out))); (case aF => exact (fun _ _ => trivial)); (case aO => exact (by (with_reducible repeat (first | apply Kd.R_alloc | apply Kd.R_drewN | apply Kd.R_drew)); exact HO_3.out)); (case aS => exact (below_size (by repeat (first | (with_reducible first | exact HB.out | apply below_alloc | apply pw_below_drewN | apply below_drew1) | exact HB.out)))); (case aL => have := LMc14.out; omega); intro v472 w15 ho hb hg hat; rw [← Ny471.out] at ho; have n0_ := Aside0.mk (hb); have n1_ := Aside0.mk (ho); clear HB; clear HO_3; have HB := n0_; have HO473 := n1_; clear n0_ n1_; clear ho hb hg hat)))
                 go_roundg kj5
                 case measure => have := HK1.out; have := HJ1.out; have := HJ5.out; omega
                 case rel => exact ⟨(y471), (wrap64 (x4_1 + 1)), (by first | rfl | (simp; done) | (simp [*]; done)), H', ⟨by have := HK1.out; have := HJ1.out; have := HJ5.out; omega⟩, ⟨by (with_reducible repeat (first | apply Kd.R_alloc | apply Kd.R_drewN | apply Kd.R_drew)); exact HO473.out⟩, ⟨by repeat (first | (with_reducible first | exact HB.out | apply below_alloc | apply pw_below_drewN | apply below_drew1) | exact HB.out)⟩⟩
               · rw [if_neg c14] at H
                 exact absurd H (by simp)
             · rw [if_neg c13] at H
               exact absurd H (by simp)
           · rw [if_neg c12] at H
             exact absurd H (by simp)
         · replace c11 := Bool.eq_false_iff.mpr c11
           subst c11
           have H1 : (kimberlitelaw01_sets.l0 kj5 l0 x3_1 (wrap64 (x4_1 + 1))) = some r := by rw [if_neg (show ¬ (false = true) by decide)] at H; exact H
           clear H
           have H := H1
           clear H1
           have H' := Aside0.mk H
           clear H
           go_wp2
           repeat (go_quiet (fail); try go_wp2)
           go_roundg kj5
           case measure => have := HK1.out; have := HJ1.out; have := HJ5.out; omega
           case rel => exact ⟨(x3_1), (wrap64 (x4_1 + 1)), (by first | rfl | (simp; done) | (simp [*]; done)), H', ⟨by have := HK1.out; have := HJ1.out; have := HJ5.out; omega⟩, ⟨by (with_reducible repeat (first | apply Kd.R_alloc | apply Kd.R_drewN | apply Kd.R_drew)); exact HO_3.out⟩, ⟨by repeat (first | (with_reducible first | exact HB.out | apply below_alloc | apply pw_below_drewN | apply below_drew1) | exact HB.out)⟩⟩
     · replace c5 := Bool.eq_false_iff.mpr c5
       subst c5
       have H1 : ((span_Of.f kj1 x3_1).bind fun bt474 => (some bt474.1)) = some r := by rw [if_neg (show ¬ (false = true) by decide)] at H; exact H
       clear H
       have H := H1
       clear H1
       replace H := Option.bind_eq_some_iff.mp H
       obtain ⟨⟨t474, t475⟩, A160, H⟩ := H
       replace H : (some t474) = some r := H
       have A16 := Aside0.mk A160
       clear A160
       obtain rfl := Option.some.inj H
       obtain ⟨Ao17, co17, eo17⟩ := Kd.R_slice HO_3.out
       subst eo17
       go_wp2_with (first | (go_at_call 19; (with_reducible refine (span_Of.calls kj1 _ _ x3_1 t474 t475 _ ?side1 ?side2 A16.out).mono ?_); (case side1 => repeat (first | exact (Kd.R_reads' HO_3.out).2.2 | (with_reducible refine Kd.C_alloc ?_ _) | (with_reducible refine Kd.C_drewN ?_ _) | (with_reducible refine Kd.C_drew ?_))); (case side2 => exact (Kd.R_reads' HO_3.out).2.1); rintro e w18 ⟨v476, rfl, ho0, hb⟩; have n0_ := Aside0.mk (Kd.R_elder' (by (with_reducible repeat (first | apply Kd.R_alloc | apply Kd.R_drewN | apply Kd.R_drew)); exact HO_3.out) (Kd.R_base ho0) hb); have n1_ := Aside0.mk (Kd.R_lower (Kd.R_new' ho0 (Kd.R_lt (by (with_reducible repeat (first | apply Kd.R_alloc | apply Kd.R_drewN | apply Kd.R_drew)); exact HO_3.out))) (below_size (by repeat (first | (with_reducible first | exact HB.out | apply below_alloc | apply pw_below_drewN | apply below_drew1) | exact HB.out)))); have n2_ := Aside0.mk (below_step (by repeat (first | (with_reducible first | exact HB.out | apply below_alloc | apply pw_below_drewN | apply below_drew1) | exact HB.out)) hb); clear HO_3; clear HB; have HO_3 := n0_; have HO477 := n1_; have HB := n2_; clear n0_ n1_ n2_; (try clear hb); (try clear hb2); (try clear hk); (try clear hi); (try clear ho0)))
       repeat (go_quiet (first | (go_at_call 19; (with_reducible refine (span_Of.calls kj1 _ _ x3_1 t474 t475 _ ?side1 ?side2 A16.out).mono ?_); (case side1 => repeat (first | exact (Kd.R_reads' HO_3.out).2.2 | (with_reducible refine Kd.C_alloc ?_ _) | (with_reducible refine Kd.C_drewN ?_ _) | (with_reducible refine Kd.C_drew ?_))); (case side2 => exact (Kd.R_reads' HO_3.out).2.1); rintro e w18 ⟨v476, rfl, ho0, hb⟩; have n0_ := Aside0.mk (Kd.R_elder' (by (with_reducible repeat (first | apply Kd.R_alloc | apply Kd.R_drewN | apply Kd.R_drew)); exact HO_3.out) (Kd.R_base ho0) hb); have n1_ := Aside0.mk (Kd.R_lower (Kd.R_new' ho0 (Kd.R_lt (by (with_reducible repeat (first | apply Kd.R_alloc | apply Kd.R_drewN | apply Kd.R_drew)); exact HO_3.out))) (below_size (by repeat (first | (with_reducible first | exact HB.out | apply below_alloc | apply pw_below_drewN | apply below_drew1) | exact HB.out)))); have n2_ := Aside0.mk (below_step (by repeat (first | (with_reducible first | exact HB.out | apply below_alloc | apply pw_below_drewN | apply below_drew1) | exact HB.out)) hb); clear HO_3; clear HB; have HO_3 := n0_; have HO477 := n1_; have HB := n2_; clear n0_ n1_ n2_; (try clear hb); (try clear hb2); (try clear hk); (try clear hi); (try clear ho0))); try go_wp2_with (first | (go_at_call 19; (with_reducible refine (span_Of.calls kj1 _ _ x3_1 t474 t475 _ ?side1 ?side2 A16.out).mono ?_); (case side1 => repeat (first | exact (Kd.R_reads' HO_3.out).2.2 | (with_reducible refine Kd.C_alloc ?_ _) | (with_reducible refine Kd.C_drewN ?_ _) | (with_reducible refine Kd.C_drew ?_))); (case side2 => exact (Kd.R_reads' HO_3.out).2.1); rintro e w18 ⟨v476, rfl, ho0, hb⟩; have n0_ := Aside0.mk (Kd.R_elder' (by (with_reducible repeat (first | apply Kd.R_alloc | apply Kd.R_drewN | apply Kd.R_drew)); exact HO_3.out) (Kd.R_base ho0) hb); have n1_ := Aside0.mk (Kd.R_lower (Kd.R_new' ho0 (Kd.R_lt (by (with_reducible repeat (first | apply Kd.R_alloc | apply Kd.R_drewN | apply Kd.R_drew)); exact HO_3.out))) (below_size (by repeat (first | (with_reducible first | exact HB.out | apply below_alloc | apply pw_below_drewN | apply below_drew1) | exact HB.out)))); have n2_ := Aside0.mk (below_step (by repeat (first | (with_reducible first | exact HB.out | apply below_alloc | apply pw_below_drewN | apply below_drew1) | exact HB.out)) hb); clear HO_3; clear HB; have HO_3 := n0_; have HO477 := n1_; have HB := n2_; clear n0_ n1_ n2_; (try clear hb); (try clear hb2); (try clear hk); (try clear hi); (try clear ho0))))
       go_ret
       exact ⟨_, by first | rfl | (simp [errW_none, errW_some] <;> rfl) | (simp [*, errW_none, errW_some] <;> rfl), by (with_reducible repeat (first | apply Kd.R_alloc | apply Kd.R_drewN | apply Kd.R_drew)); exact Kd.R_mono HO477.out (fun _ hk => trivial), by repeat (first | (with_reducible first | exact HB.out | apply below_alloc | apply pw_below_drewN | apply below_drew1) | exact HB.out)⟩
end Go.Proofs.Ytningpmoojnomaa.Pr
end
section
namespace Go.Proofs.Ytningpmoojnomaa.Pr
open Go.RowKit Go.Proofs.YtningpmoojnomaaW.PrintWords Go.Proofs.YtningpmoojnomaaW.PrintLast Go.Proofs.YtningpmoojnomaaW.PrintMore
set_option linter.unusedVariables false
set_option linter.unusedSimpArgs false
theorem nodup_len : ∀ (l m : List Int), l.Pairwise (· < ·) → (∀ x ∈ l, x ∈ m) → l.length ≤ m.length
  | [], _, _, _ => Nat.zero_le _
  | x :: t, m, h, hs => by
    rw [List.pairwise_cons] at h
    have hx := hs x List.mem_cons_self
    have h1 := nodup_len t (m.erase x) h.2 (fun y hy => (List.mem_erase_of_ne (by have := h.1 y hy; omega)).2 (hs y (List.mem_cons_of_mem _ hy)))
    rw [List.length_erase_of_mem hx] at h1
    have h2 : 0 < m.length := List.length_pos_of_mem hx
    rw [List.length_cons]
    omega
theorem flip_up {l : List S32} {x : Int} (h1 : memS l x = true) (h0 : memS l (x - 1) = false) : x ∈ l.map (fun s => s.f0) := by
  obtain ⟨s, hs, a1, a2⟩ := (memS_iff _ _).1 h1
  refine List.mem_map.2 ⟨s, hs, ?_⟩
  by_cases h : s.f0 ≤ x - 1
  · have h3 : memS l (x - 1) = true := (memS_iff _ _).2 ⟨s, hs, h, by omega⟩
    rw [h0] at h3
    cases h3
  · show s.f0 = x
    omega
theorem flip_down {l : List S32} {x : Int} (h1 : memS l x = false) (h0 : memS l (x - 1) = true) : x ∈ l.map (fun s => s.f1) := by
  obtain ⟨s, hs, a1, a2⟩ := (memS_iff _ _).1 h0
  refine List.mem_map.2 ⟨s, hs, ?_⟩
  by_cases h : x < s.f1
  · have h3 : memS l x = true := (memS_iff _ _).2 ⟨s, hs, by omega, h⟩
    rw [h1] at h3
    cases h3
  · show s.f1 = x
    omega
theorem asc_left : ∀ (l : List S32) (lo : Int), Asc lo l → (l.map (fun s => s.f0)).Pairwise (· < ·)
  | [], _, _ => List.Pairwise.nil
  | s :: t, lo, ⟨h1, h2, h3, h4⟩ => by
    rw [List.map_cons, List.pairwise_cons]
    refine ⟨fun y hy => ?_, asc_left t _ h4⟩
    obtain ⟨u, hu, rfl⟩ := List.mem_map.1 hy
    have := (asc_pair t _ h4).2 u hu
    omega
theorem asc_start {l : List S32} {lo : Int} (h : Asc lo l) (hlo : -1099511627776 ≤ lo) : ∀ s ∈ l, memS l s.f0 = true ∧ memS l (s.f0 - 1) = false := by
  intro s hs
  have g := goodL_asc l lo h hlo s hs
  refine ⟨(memS_iff _ _).2 ⟨s, hs, Int.le_refl _, g.2.1⟩, ?_⟩
  rw [← Bool.not_eq_true]
  intro hm
  obtain ⟨s', hs', a1, a2⟩ := (memS_iff _ _).1 hm
  have g' := goodL_asc l lo h hlo s' hs'
  rcases pair_or (asc_pair l lo h).1 s' hs' s hs with rfl | h | h <;> omega
/-- A set made of two lists has no more spans than the lists together. -/
theorem made_few (kind : Int) (hk : kind = 0 ∨ kind = 1 ∨ kind = 2) {a b : List S32} (ha : GoodL a) (hb : GoodL b) : (madeL kind a b).length ≤ a.length + b.length := by
  obtain ⟨h1, h2⟩ := made_spec kind a b (good_two ha hb)
  have h3 := nodup_len ((madeL kind a b).map (fun s => s.f0)) (a.map (fun s => s.f0) ++ b.map (fun s => if kind = 2 then s.f1 else s.f0)) (asc_left _ _ h1) (fun x hx => ?_)
  · simpa using h3
  · obtain ⟨s, hs, rfl⟩ := List.mem_map.1 hx
    obtain ⟨e1, e0⟩ := asc_start h1 (Int.le_refl _) s hs
    rw [h2] at e1 e0
    have ua := @flip_up a s.f0
    have ub := @flip_up b s.f0
    have db := @flip_down b s.f0
    rw [List.mem_append]
    generalize memS a s.f0 = p at *
    generalize memS a (s.f0 - 1) = p' at *
    generalize memS b s.f0 = q at *
    generalize memS b (s.f0 - 1) = q' at *
    rcases hk with rfl | rfl | rfl
    · cases p <;> cases p' <;> cases q <;> cases q' <;> simp [keepsB] at e1 e0 <;> simp_all
    · cases p <;> cases p' <;> cases q <;> cases q' <;> simp [keepsB] at e1 e0 <;> simp_all
    · cases p <;> cases p' <;> cases q <;> cases q' <;> simp [keepsB] at e1 e0 <;> simp_all
def pick60 : List S32 → List S32 → List S32
  | [], acc => acc
  | s :: t, acc => if acc.length < 60 then (if goodS s = true then pick60 t (acc ++ [s]) else pick60 t acc) else acc
theorem pick60_spec : ∀ (l acc : List S32), acc.length ≤ 60 → (∀ s ∈ acc, goodS s = true) → (pick60 l acc).length ≤ 60 ∧ ∀ s ∈ pick60 l acc, goodS s = true
  | [], acc, h, hg => ⟨h, hg⟩
  | s :: t, acc, h, hg => by
    unfold pick60
    by_cases h60 : acc.length < 60
    · rw [if_pos h60]
      by_cases hs : goodS s = true
      · rw [if_pos hs]
        refine pick60_spec t _ (by simp; omega) (fun u hu => ?_)
        rcases List.mem_append.1 hu with hu | hu
        · exact hg u hu
        · rw [List.mem_singleton.1 hu]; exact hs
      · rw [if_neg hs]
        exact pick60_spec t acc h hg
    · rw [if_neg h60]
      exact ⟨h, hg⟩
theorem sets_loop (l : List S32) (hn : l.length ≤ 9223372036854775807) : ∀ (d i : Nat) (acc : List S32), l.length - i = d → acc.length ≤ 60 → Ev (fun k => kimberlitelaw01_sets.l0 k l acc (i : Int)) (ofR (pick60 (l.drop i) acc)).1
  | 0, i, acc, hd, ha => by
    rw [List.drop_of_length_le (by omega)]
    refine Ev.step (f := fun k => kimberlitelaw01_sets.j1 k l acc (i : Int) false) (fun k => by simp only [kimberlitelaw01_sets.l0]; rw [if_neg (by omega)]) ?_
    refine Ev.step (f := fun k => (span_Of.f k acc).bind fun t => some t.1) (fun k => by simp only [kimberlitelaw01_sets.j1]; rw [if_neg (by decide)]) ?_
    exact Ev.bind (spanOf_ev acc) (Ev.now _)
  | d + 1, i, acc, hd, ha => by
    have hi : i < l.length := by omega
    rw [drop_cons l i hi]
    by_cases h60 : acc.length < 60
    · have hg := goodS_iff (l.getD i z32)
      refine Ev.step (f := fun k => kimberlitelaw01_sets.j1 k l acc (i : Int) true) (fun k => by simp only [kimberlitelaw01_sets.l0]; rw [if_pos (by omega), decide_eq_true (by omega)]) ?_
      refine Ev.step (f := fun k => kimberlitelaw01_sets.j2 k l acc (i : Int) (goodS (l.getD i z32))) (fun k => ?_) ?_
      · simp only [kimberlitelaw01_sets.j1]
        rw [if_pos (by trivial), if_pos (by omega), if_pos (by omega), rd_nat]
        by_cases c1 : (l.getD i z32).f0 ≥ -1099511627776
        · rw [if_pos c1]
          by_cases c2 : (l.getD i z32).f0 < (l.getD i z32).f1
          · rw [if_pos c2]
            congr 1
            rw [Bool.eq_iff_iff, hg, decide_eq_true_iff]
            omega
          · rw [if_neg c2]
            congr 1
            exact (Bool.eq_false_iff.2 (fun h => by have := hg.1 h; omega)).symm
        · rw [if_neg c1]
          congr 1
          exact (Bool.eq_false_iff.2 (fun h => by have := hg.1 h; omega)).symm
      · unfold pick60
        rw [if_pos h60]
        cases hgs : goodS (l.getD i z32) with
        | true =>
          rw [if_pos rfl]
          refine Ev.step (fun k => ?_) (sets_loop l hn d (i + 1) (acc ++ [l.getD i z32]) (by omega) (by simp; omega))
          simp only [kimberlitelaw01_sets.j2]
          rw [if_pos (by trivial), if_pos (by omega), if_pos (by omega), if_pos (by omega), rd_nat, wrap_succ hi hn]
        | false =>
          rw [if_neg (by decide)]
          refine Ev.step (fun k => ?_) (sets_loop l hn d (i + 1) acc (by omega) ha)
          simp only [kimberlitelaw01_sets.j2]
          rw [if_neg (by decide), wrap_succ hi hn]
    · unfold pick60
      rw [if_neg h60]
      refine Ev.step (f := fun k => kimberlitelaw01_sets.j1 k l acc (i : Int) false) (fun k => by simp only [kimberlitelaw01_sets.l0]; rw [if_pos (by omega), decide_eq_false (by omega)]) ?_
      refine Ev.step (f := fun k => (span_Of.f k acc).bind fun t => some t.1) (fun k => by simp only [kimberlitelaw01_sets.j1]; rw [if_neg (by decide)]) ?_
      exact Ev.bind (spanOf_ev acc) (Ev.now _)
def setsL (l : List S32) : List S32 := ofL (pick60 l [])
theorem sets_ev (l : List S32) (hn : l.length ≤ 9223372036854775807) : Ev (fun k => kimberlitelaw01_sets.f k l) (setsL l) ∧ validS (setsL l) = true ∧ (setsL l).length ≤ 60 := by
  obtain ⟨p1, p2⟩ := pick60_spec l [] (by simp) (fun s hs => by cases hs)
  have hl : listR (pick60 l []) = 0 := by
    unfold listR
    rw [if_neg (by omega), if_neg]
    intro h
    obtain ⟨s, hs, h⟩ := List.any_eq_true.1 h
    rw [p2 s hs] at h
    cases h
  have h := sets_loop l hn _ 0 [] rfl (by simp)
  rw [List.drop_zero, ofR, if_pos hl] at h
  have hg : GoodL (pick60 l []) := fun s hs => (goodS_iff s).1 (p2 s hs)
  have h4 := made_few 0 (.inl rfl) hg (show GoodL [] from fun s hs => by cases hs)
  refine ⟨h, ofL_valid hl, ?_⟩
  show (madeL 0 _ []).length ≤ 60
  simp at h4
  omega
end Go.Proofs.Ytningpmoojnomaa.Pr
end
section
namespace Go.Proofs.Ytningpmoojnomaa.Pr
open Go.RowKit Go.Proofs.YtningpmoojnomaaW.PrintWords Go.Proofs.YtningpmoojnomaaW.PrintLast Go.Proofs.YtningpmoojnomaaW.PrintMore
set_option linter.unusedVariables false
set_option linter.unusedSimpArgs false
theorem compactUpTo_spec (S : List Int) (h : S.Pairwise (· ≤ ·)) : ∀ m, m ≤ S.length → (Lib.compactUpTo S.toArray m).Pairwise (· < ·) ∧ (∀ z, z ∈ Lib.compactUpTo S.toArray m ↔ ∃ j, ∃ hj : j < m, ∃ hs : j < S.length, z = S[j]) ∧ (Lib.compactUpTo S.toArray m).length ≤ m
  | 0, _ => by simp [Lib.compactUpTo]
  | m + 1, hm => by
    obtain ⟨ih1, ih2, ih3⟩ := compactUpTo_spec S h m (by omega)
    have hmS : m < S.length := by omega
    have em : S.toArray[m]! = S[m] := by rw [getElem!_pos S.toArray m (by simpa using hmS)]; simp
    rw [Lib.compactUpTo_succ, em]
    by_cases hk : Lib.keeps S.toArray m = true
    · rw [if_pos hk]
      refine ⟨?_, fun z => ?_, by simp; omega⟩
      · rw [List.pairwise_append]
        refine ⟨ih1, by simp, fun x hx y hy => ?_⟩
        rw [List.mem_singleton] at hy
        subst hy
        obtain ⟨j, hj, hs, rfl⟩ := (ih2 x).1 hx
        have hle : S[j] ≤ S[m - 1] := by
          rcases Nat.lt_or_ge j (m - 1) with hlt | hge
          · exact (List.pairwise_iff_getElem.1 h) j (m - 1) hs (by omega) hlt
          · have : j = m - 1 := by omega
            subst this
            exact Int.le_refl _
        have hle2 : S[m - 1] ≤ S[m] := (List.pairwise_iff_getElem.1 h) (m - 1) m (by omega) hmS (by omega)
        have hne : S[m] ≠ S[m - 1] := by
          unfold Lib.keeps at hk
          rw [decide_eq_true_eq] at hk
          rcases hk with h0 | h0
          · omega
          · rw [em, getElem!_pos S.toArray (m - 1) (by simp; omega)] at h0
            simpa using h0
        omega
      · rw [List.mem_append, ih2 z, List.mem_singleton]
        constructor
        · rintro (⟨j, hj, hs, rfl⟩ | rfl)
          · exact ⟨j, by omega, hs, rfl⟩
          · exact ⟨m, by omega, hmS, rfl⟩
        · rintro ⟨j, hj, hs, rfl⟩
          rcases Nat.lt_or_ge j m with hlt | hge
          · exact .inl ⟨j, hlt, hs, rfl⟩
          · have : j = m := by omega
            subst this
            exact .inr rfl
    · rw [if_neg hk, List.append_nil]
      refine ⟨ih1, fun z => ?_, by omega⟩
      have hno : ¬ (m = 0 ∨ S.toArray[m]! ≠ S.toArray[m - 1]!) := fun hc => hk (by unfold Lib.keeps; exact decide_eq_true hc)
      have h0 : m ≠ 0 := fun hc => hno (.inl hc)
      have he : S[m] = S[m - 1] := by
        have := Decidable.not_not.1 (fun hc => hno (.inr hc))
        rw [em, getElem!_pos S.toArray (m - 1) (by simp; omega)] at this
        simpa using this
      rw [ih2 z]
      constructor
      · rintro ⟨j, hj, hs, rfl⟩
        exact ⟨j, by omega, hs, rfl⟩
      · rintro ⟨j, hj, hs, rfl⟩
        rcases Nat.lt_or_ge j m with hlt | hge
        · exact ⟨j, hlt, hs, rfl⟩
        · have : j = m := by omega
          subst this
          exact ⟨j - 1, by omega, by omega, he⟩
theorem compact_spec (S : List Int) (h : S.Pairwise (· ≤ ·)) : (Lib.compact S).Pairwise (· < ·) ∧ (∀ z, z ∈ Lib.compact S ↔ z ∈ S) ∧ (Lib.compact S).length ≤ S.length := by
  obtain ⟨h1, h2, h3⟩ := compactUpTo_spec S h S.length (Nat.le_refl _)
  refine ⟨h1, fun z => ?_, h3⟩
  show z ∈ Lib.compactUpTo S.toArray S.length ↔ _
  rw [h2 z, List.mem_iff_getElem]
  constructor
  · rintro ⟨j, hj, hs, rfl⟩
    exact ⟨j, hs, rfl⟩
  · rintro ⟨j, hs, rfl⟩
    exact ⟨j, hs, hs, rfl⟩
def flatS (l : List S32) : List Int := l.flatMap (fun s => [s.f0, s.f1])
def cutsAt (a b : List S32) : Nat → List Int
  | 0 => [-1099511627776, 1099511627776]
  | 1 => [-1099511627776, 1099511627776] ++ flatS a
  | _ => [-1099511627776, 1099511627776] ++ flatS a ++ flatS b
theorem flat_succ (l : List S32) (i : Nat) (h : i < l.length) : flatS (l.take (i + 1)) = flatS (l.take i) ++ [(l.getD i z32).f0, (l.getD i z32).f1] := by
  unfold flatS
  rw [List.take_succ_eq_append_getElem h, List.flatMap_append]
  simp [List.getD_eq_getElem?_getD, List.getElem?_eq_getElem h]
theorem flat_len : ∀ l : List S32, (flatS l).length = 2 * l.length
  | [] => rfl
  | s :: t => by
    have := flat_len t
    rw [show flatS (s :: t) = [s.f0, s.f1] ++ flatS t from rfl, List.length_append, this]
    simp
    omega
theorem mem_flat (l : List S32) (z : Int) : z ∈ flatS l ↔ ∃ s ∈ l, z = s.f0 ∨ z = s.f1 := by
  unfold flatS
  rw [List.mem_flatMap]
  simp
def cutsE (a b : List S32) : List Int := Lib.compact ((cutsAt a b 2).mergeSort fun x y => decide (x ≤ y))
theorem cutsE_spec (a b : List S32) : (cutsE a b).Pairwise (· < ·) ∧ (∀ z, z ∈ cutsE a b ↔ z = -1099511627776 ∨ z = 1099511627776 ∨ ∃ s, (s ∈ a ∨ s ∈ b) ∧ (z = s.f0 ∨ z = s.f1)) ∧ (cutsE a b).length ≤ 2 + 2 * a.length + 2 * b.length := by
  have hs : ((cutsAt a b 2).mergeSort fun x y => decide (x ≤ y)).Pairwise (· ≤ ·) := by
    have := List.pairwise_mergeSort (le := fun x y : Int => decide (x ≤ y)) (fun a b c h1 h2 => by simp at *; omega) (fun a b => by simp; omega) (cutsAt a b 2)
    exact this.imp (fun h => by simpa using h)
  obtain ⟨h1, h2, h3⟩ := compact_spec _ hs
  refine ⟨h1, fun z => ?_, ?_⟩
  · show z ∈ Lib.compact _ ↔ _
    rw [h2 z, List.mem_mergeSort]
    show z ∈ [-1099511627776, 1099511627776] ++ flatS a ++ flatS b ↔ _
    rw [List.mem_append, List.mem_append, mem_flat, mem_flat]
    simp only [List.mem_cons, List.not_mem_nil, or_false]
    constructor
    · rintro (((h | h) | ⟨s, hs, h⟩) | ⟨s, hs, h⟩)
      · exact .inl h
      · exact .inr (.inl h)
      · exact .inr (.inr ⟨s, .inl hs, h⟩)
      · exact .inr (.inr ⟨s, .inr hs, h⟩)
    · rintro (h | h | ⟨s, hs | hs, h⟩)
      · exact .inl (.inl (.inl h))
      · exact .inl (.inl (.inr h))
      · exact .inl (.inr ⟨s, hs, h⟩)
      · exact .inr ⟨s, hs, h⟩
  · rw [List.length_mergeSort] at h3
    refine Nat.le_trans h3 ?_
    show ([-1099511627776, 1099511627776] ++ flatS a ++ flatS b).length ≤ _
    rw [List.length_append, List.length_append, flat_len, flat_len]
    simp
abbrev PieceT := S32 × (Bool × Bool)
def pieceAt (a b : List S32) (E : List Int) (i : Nat) : PieceT := (⟨rd E (i : Int), rd E ((i + 1 : Nat) : Int)⟩, (memS a (rd E (i : Int)), memS b (rd E (i : Int))))
def upTo (a b : List S32) (E : List Int) (n : Nat) : List PieceT := (List.range n).map (pieceAt a b E)
def piecesL (a b : List S32) : List PieceT := upTo a b (cutsE a b) ((cutsE a b).length - 1)
theorem upTo_succ (a b : List S32) (E : List Int) (n : Nat) : upTo a b E (n + 1) = upTo a b E n ++ [pieceAt a b E n] := by
  unfold upTo
  rw [List.range_succ, List.map_append]
  rfl
theorem upTo_len (a b : List S32) (E : List Int) (n : Nat) : (upTo a b E n).length = n := by simp [upTo]
/-- The pieces of a list of cuts. -/
def pcs (a b : List S32) : List Int → List PieceT
  | e :: e' :: t => (⟨e, e'⟩, (memS a e, memS b e)) :: pcs a b (e' :: t)
  | _ => []
theorem upTo_from (a b : List S32) (E : List Int) : ∀ (d i : Nat), E.length - 1 - i = d → (List.range' i d).map (pieceAt a b E) = pcs a b (E.drop i)
  | 0, i, h => by
    rcases hd : E.drop i with _ | ⟨e, _ | ⟨e', t⟩⟩
    · rfl
    · rfl
    · have := congrArg List.length hd
      simp at this
      omega
  | d + 1, i, h => by
    rw [List.range'_succ, List.map_cons, upTo_from a b E d (i + 1) (by omega), drop2 E i (by omega), pcs, dropI E (i + 1) (by omega)]
    rfl
theorem piecesL_eq (a b : List S32) : piecesL a b = pcs a b (cutsE a b) := by
  have := upTo_from a b (cutsE a b) _ 0 rfl
  unfold piecesL upTo
  rw [List.range_eq_range']
  simpa using this
/-- What a rule chooses. -/
def chz (q : Bool → Bool → Bool) (l : List PieceT) : List S32 := (l.filter (fun p => q p.2.1 p.2.2)).map (fun p => p.1)
theorem chz_snoc (q : Bool → Bool → Bool) (l : List PieceT) (x : PieceT) : chz q (l ++ [x]) = if q x.2.1 x.2.2 = true then chz q l ++ [x.1] else chz q l := by
  unfold chz
  rw [List.filter_append, List.map_append]
  by_cases h : q x.2.1 x.2.2 = true
  · rw [if_pos h]; simp [h]
  · rw [if_neg h]; simp [h]
theorem chz_len (q : Bool → Bool → Bool) (l : List PieceT) : (chz q l).length ≤ l.length := by
  unfold chz
  rw [List.length_map]
  exact List.length_filter_le _ _
theorem chz_mem (q : Bool → Bool → Bool) (a b : List S32) : ∀ (E : List Int) (x : Int), memS (chz q (pcs a b E)) x = inP (fun e => q (memS a e) (memS b e)) E x
  | [], _ => rfl
  | [_], _ => rfl
  | e :: e' :: t, x => by
    have ih := chz_mem q a b (e' :: t) x
    rw [pcs, inP, ← ih]
    unfold chz
    rw [List.filter_cons]
    by_cases h : q (memS a e) (memS b e) = true
    · rw [if_pos h, List.map_cons, memS_cons, h, Bool.true_and]
      rfl
    · rw [if_neg h, Bool.eq_false_iff.2 h, Bool.false_and, Bool.false_or]
theorem chz_low (q : Bool → Bool → Bool) (a b : List S32) : ∀ (E : List Int) (lo hi : Int), E.Pairwise (· < ·) → (∀ e ∈ E, lo ≤ e ∧ e ≤ hi) → (chz q (pcs a b E)).Pairwise (fun x y => x.f0 ≤ y.f0) ∧ ∀ s ∈ chz q (pcs a b E), lo ≤ s.f0 ∧ s.f0 < s.f1 ∧ s.f1 ≤ hi
  | [], _, _, _, _ => by simp [pcs, chz]
  | [_], _, _, _, _ => by simp [pcs, chz]
  | e :: e' :: t, lo, hi, hp, hE => by
    rw [List.pairwise_cons] at hp
    have h0 := hE e (List.mem_cons_self)
    have h1 := hE e' (List.mem_cons_of_mem _ List.mem_cons_self)
    have hlt := hp.1 e' List.mem_cons_self
    obtain ⟨ip, im⟩ := chz_low q a b (e' :: t) e' hi hp.2 (fun z hz => ⟨by
      rcases List.mem_cons.1 hz with rfl | hz
      · exact Int.le_refl _
      · have := (List.pairwise_cons.1 hp.2).1 z hz
        exact Int.le_of_lt this, (hE z (List.mem_cons_of_mem _ hz)).2⟩)
    have hstep : chz q (pcs a b (e :: e' :: t)) = if q (memS a e) (memS b e) = true then ⟨e, e'⟩ :: chz q (pcs a b (e' :: t)) else chz q (pcs a b (e' :: t)) := by
      rw [pcs]
      unfold chz
      rw [List.filter_cons]
      by_cases h : q (memS a e) (memS b e) = true
      · rw [if_pos h, if_pos h]; rfl
      · rw [if_neg h, if_neg h]
    rw [hstep]
    by_cases h : q (memS a e) (memS b e) = true
    · rw [if_pos h]
      refine ⟨?_, fun s hs => ?_⟩
      · rw [List.pairwise_cons]
        exact ⟨fun s hs => by have := im s hs; simp only; omega, ip⟩
      · rcases List.mem_cons.1 hs with rfl | hs
        · exact ⟨h0.1, hlt, h1.2⟩
        · have := im s hs; omega
    · rw [if_neg h]
      exact ⟨ip, fun s hs => by have := im s hs; omega⟩
theorem valid_gd {l : List S32} (h : validS l = true) : ∀ s ∈ l, -1099511627776 ≤ s.f0 ∧ s.f0 < s.f1 ∧ s.f1 ≤ 1099511627776 := by
  have key : ∀ (l : List S32) (lo : Int), -1099511627776 ≤ lo → Asc lo l → ∀ s ∈ l, -1099511627776 ≤ s.f0 ∧ s.f0 < s.f1 ∧ s.f1 ≤ 1099511627776 := by
    intro l
    induction l with
    | nil => intro lo _ _ s hs; cases hs
    | cons y t ih =>
      rintro lo hlo ⟨h1, h2, h3, h4⟩ s hs
      rcases List.mem_cons.1 hs with rfl | hs
      · omega
      · exact ih _ (by omega) h4 s hs
  exact key l _ (Int.le_refl _) (asc_valid h).2
/-- In an ascending list the first span that ends behind a number tells whether the number is there. -/
theorem asc_first : ∀ (l : List S32) (lo x : Int) (i : Nat), Asc lo l → (∀ j, j < i → (l.getD j z32).f1 ≤ x) → (i < l.length → x < (l.getD i z32).f1) → memS l x = (decide (i < l.length) && decide ((l.getD i z32).f0 ≤ x))
  | [], lo, x, i, _, _, _ => by simp [memS]
  | s :: t, lo, x, 0, ⟨h1, h2, h3, h4⟩, _, hi => by
    have hx : x < s.f1 := by simpa using hi (by simp)
    have ht : memS t x = false := by
      rw [← Bool.not_eq_true]
      intro hc
      have := asc_low _ _ _ h4 hc
      omega
    rw [memS_cons, ht, Bool.or_false]
    unfold hasS
    simp [hx]
  | s :: t, lo, x, i + 1, ⟨h1, h2, h3, h4⟩, hb, hi => by
    have h0 : s.f1 ≤ x := by simpa using hb 0 (by omega)
    have := asc_first t _ x i h4 (fun j hj => by simpa using hb (j + 1) (by omega)) (fun hl => by simpa using hi (by simpa using hl))
    rw [memS_cons, this]
    have hs : hasS x s = false := by unfold hasS; simp; omega
    rw [hs, Bool.false_or]
    simp
/-- The plain answer of Union (0), Intersect (1) and Subtract (2), of both. -/
def twoR (kind : Int) (a b : List S32) : List S32 × Int := if validS a && validS b then (if (madeL kind a b).length > 128 then ([], 8) else (madeL kind a b, 0)) else ([], 2)
theorem jn_chz (q : Bool → Bool → Bool) (a b : List S32) (ha : validS a = true) (hb : validS b = true) : Asc (-1099511627776) (jn (chz q (piecesL a b)) none) ∧ ∀ x, memS (jn (chz q (piecesL a b)) none) x = inP (fun e => q (memS a e) (memS b e)) (cutsE a b) x := by
  obtain ⟨e1, e2, e3⟩ := cutsE_spec a b
  have hE : ∀ e ∈ cutsE a b, -1099511627776 ≤ e ∧ e ≤ 1099511627776 := fun e he => by
    rcases (e2 e).1 he with rfl | rfl | ⟨s, hs, h⟩
    · omega
    · omega
    · have : -1099511627776 ≤ s.f0 ∧ s.f0 < s.f1 ∧ s.f1 ≤ 1099511627776 := hs.elim (valid_gd ha s) (valid_gd hb s)
      rcases h with rfl | rfl <;> omega
  obtain ⟨l1, l2⟩ := chz_low q a b (cutsE a b) _ _ e1 hE
  rw [piecesL_eq]
  obtain ⟨j1, j2⟩ := jn_spec _ none (-1099511627776) l1 l2 (fun c hc => by cases hc)
  refine ⟨j1, fun x => ?_⟩
  rw [j2 x, chz_mem]
  rfl
theorem chosen_made (kind : Int) (a b : List S32) (ha : validS a = true) (hb : validS b = true) : jn (chz (keepsB kind) (piecesL a b)) none = madeL kind a b := by
  obtain ⟨j1, j2⟩ := jn_chz (keepsB kind) a b ha hb
  obtain ⟨e1, e2, e3⟩ := cutsE_spec a b
  have hg : ∀ s, s ∈ a ∨ s ∈ b → -1099511627776 ≤ s.f0 ∧ s.f0 < s.f1 ∧ s.f1 ≤ 1099511627776 := fun s hs => hs.elim (valid_gd ha s) (valid_gd hb s)
  obtain ⟨m1, m2⟩ := made_spec kind a b hg
  refine canon _ _ _ _ j1 m1 (fun x => ?_)
  rw [j2 x, m2 x]
  exact inP_ends (keepsB kind) (keepsB_ff kind) a b (fun s hs => (hg s hs).2.1) _ e1 (fun s hs => ⟨(e2 _).2 (.inr (.inr ⟨s, hs, .inl rfl⟩)), (e2 _).2 (.inr (.inr ⟨s, hs, .inr rfl⟩))⟩) x
/-- What the program's rule comes to. -/
theorem prog_two (kind : Int) (a b : List S32) (h : (validS a && validS b) = true) : twoR kind a b = if (jn (chz (keepsB kind) (piecesL a b)) none).length > 128 then ([], 8) else (jn (chz (keepsB kind) (piecesL a b)) none, 0) := by
  unfold twoR
  rw [h]
  simp only [if_true]
  rw [Bool.and_eq_true] at h
  rw [chosen_made kind a b h.1 h.2]
end Go.Proofs.Ytningpmoojnomaa.Pr
end
section
namespace Go.Proofs.Ytningpmoojnomaa.Pr
open Go.RowKit Go.Proofs.YtningpmoojnomaaW.PrintWords Go.Proofs.YtningpmoojnomaaW.PrintLast Go.Proofs.YtningpmoojnomaaW.PrintMore
set_option linter.unusedVariables false
set_option linter.unusedSimpArgs false
theorem mem_range {l : List S32} (hg : GoodL l) {x : Int} (h : memS l x = true) : -1099511627776 ≤ x ∧ x < 1099511627776 := by
  obtain ⟨s, hs, a1, a2⟩ := (memS_iff _ _).1 h
  have := hg s hs
  omega
theorem sub_iff {a b : List S32} (ga : GoodL a) (gb : GoodL b) : madeL 2 a b = [] ↔ ∀ x, memS a x = true → memS b x = true := by
  obtain ⟨h1, h2⟩ := made_spec 2 a b (good_two ga gb)
  constructor
  · intro h x hx
    have := h2 x
    rw [h, hx, memS_nil] at this
    cases hb : memS b x with
    | true => rfl
    | false => rw [hb] at this; simp [keepsB] at this
  · intro h
    refine canon _ _ _ (-1099511627776) h1 trivial (fun x => ?_)
    rw [h2, memS_nil]
    have := h x
    cases hx : memS a x <;> cases hb : memS b x <;> simp_all [keepsB]
theorem grow_valid {a : List S32} (ha : validS a = true) {r : Int} (h0 : 0 ≤ r) : validS (growL r a) = true ∧ (growL r a).length ≤ a.length := by
  obtain ⟨hl, hg⟩ := valid_good ha
  have h1 := made_few 0 (.inl rfl) (gS_good hg h0) (show GoodL [] from fun s hs => by cases hs)
  have h2 : (growL r a).length ≤ a.length := by unfold growL; simpa using h1
  exact ⟨valid_of_asc (by omega) (growL_spec hg h0).1, h2⟩
theorem shrink_valid {a : List S32} (ha : validS a = true) {r : Int} (h0 : 0 ≤ r) : validS (shrinkL r a) = true ∧ (shrinkL r a).length ≤ a.length := by
  obtain ⟨hl, hg⟩ := valid_good ha
  have h2 : (shrinkL r a).length ≤ a.length := List.length_filterMap_le _ _
  exact ⟨valid_of_asc (by omega) (shrink_asc r h0 a _ (asc_valid ha).2 (Int.le_refl _)), h2⟩
theorem growL_mem {a : List S32} (hg : GoodL a) {r : Int} (h0 : 0 ≤ r) (x : Int) : memS (growL r a) x = true ↔ (-1099511627776 ≤ x ∧ x < 1099511627776 ∧ ∃ y, x - r ≤ y ∧ y ≤ x + r ∧ memS a y = true) := by
  rw [(growL_spec hg h0).2 x]
  exact grow_mem hg h0 x
theorem adjoint {a b : List S32} (ha : validS a = true) (hb : validS b = true) {r : Int} (h0 : 0 ≤ r) : madeL 2 (growL r a) b = [] ↔ madeL 2 a (shrinkL r b) = [] := by
  have ga := (valid_good ha).2
  have gb := (valid_good hb).2
  rw [sub_iff (valid_good (grow_valid ha h0).1).2 gb, sub_iff ga (valid_good (shrink_valid hb h0).1).2]
  constructor
  · intro h x hx
    have hr := mem_range ga hx
    refine (shrink_mem (asc_valid hb).2 h0 x).2 ⟨hr.1, hr.2, fun y y1 y2 y3 y4 => h y ((growL_mem ga h0 y).2 ⟨y1, y2, x, by omega, by omega, hx⟩)⟩
  · intro h x hx
    obtain ⟨x1, x2, y, y1, y2, hy⟩ := (growL_mem ga h0 x).1 hx
    exact ((shrink_mem (asc_valid hb).2 h0 y).1 (h y hy)).2.2 x x1 x2 (by omega) (by omega)
theorem between (x z r q : Int) (h0 : 0 ≤ r) (h1 : 0 ≤ q) (hz1 : x - (r + q) ≤ z) (hz2 : z ≤ x + (r + q)) : ∃ y, x - q ≤ y ∧ y ≤ x + q ∧ y - r ≤ z ∧ z ≤ y + r ∧ min x z ≤ y ∧ y ≤ max x z := by
  by_cases h : z ≤ x
  · exact ⟨max z (x - q), by omega, by omega, by omega, by omega, by omega, by omega⟩
  · exact ⟨min z (x + q), by omega, by omega, by omega, by omega, by omega, by omega⟩
theorem grow_twice {a : List S32} (ha : validS a = true) {r q : Int} (h0 : 0 ≤ r) (h1 : 0 ≤ q) : growL q (growL r a) = growL (r + q) a := by
  have ga := (valid_good ha).2
  have gg := (valid_good (grow_valid ha h0).1).2
  refine canon _ _ _ _ (growL_spec gg h1).1 (growL_spec ga (show 0 ≤ r + q by omega)).1 (fun x => ?_)
  rw [Bool.eq_iff_iff, growL_mem gg h1 x, growL_mem ga (by omega) x]
  constructor
  · rintro ⟨x1, x2, y, y1, y2, hy⟩
    obtain ⟨_, _, z, z1, z2, hz⟩ := (growL_mem ga h0 y).1 hy
    exact ⟨x1, x2, z, by omega, by omega, hz⟩
  · rintro ⟨x1, x2, z, z1, z2, hz⟩
    have hr := mem_range ga hz
    obtain ⟨y, y1, y2, y3, y4, y5, y6⟩ := between x z r q h0 h1 z1 z2
    exact ⟨x1, x2, y, y1, y2, (growL_mem ga h0 y).2 ⟨by omega, by omega, z, y3, y4, hz⟩⟩
theorem shrink_twice {b : List S32} (hb : validS b = true) {r q : Int} (h0 : 0 ≤ r) (h1 : 0 ≤ q) : shrinkL q (shrinkL r b) = shrinkL (r + q) b := by
  have vb := shrink_valid hb h0
  have ab := (asc_valid hb).2
  have ac := (asc_valid vb.1).2
  refine canon _ _ _ _ (shrink_asc q h1 _ _ ac (Int.le_refl _)) (shrink_asc (r + q) (by omega) _ _ ab (Int.le_refl _)) (fun x => ?_)
  rw [Bool.eq_iff_iff, shrink_mem ac h1 x, shrink_mem ab (by omega) x]
  constructor
  · rintro ⟨x1, x2, h⟩
    refine ⟨x1, x2, fun z z1 z2 z3 z4 => ?_⟩
    obtain ⟨y, y1, y2, y3, y4, y5, y6⟩ := between x z r q h0 h1 z3 z4
    exact ((shrink_mem ab h0 y).1 (h y (by omega) (by omega) y1 y2)).2.2 z z1 z2 y3 y4
  · rintro ⟨x1, x2, h⟩
    refine ⟨x1, x2, fun y y1 y2 y3 y4 => (shrink_mem ab h0 y).2 ⟨y1, y2, fun z z1 z2 z3 z4 => h z z1 z2 (by omega) (by omega)⟩⟩
theorem twoR_eq (kind : Int) {a b : List S32} (ha : validS a = true) (hb : validS b = true) : twoR kind a b = if (madeL kind a b).length > 128 then ([], 8) else (madeL kind a b, 0) := by
  unfold twoR
  rw [ha, hb]
  rfl
end Go.Proofs.Ytningpmoojnomaa.Pr
end
section
namespace Go.Proofs.Ytningpmoojnomaa.Pr
open Go.RowKit Go.Proofs.YtningpmoojnomaaW.PrintWords Go.Proofs.YtningpmoojnomaaW.PrintLast Go.Proofs.YtningpmoojnomaaW.PrintMore
attribute [local go_sem] max2_int min2_int max_two min_two max_three min_three max_four min_four   -- for this text's walks alone
set_option linter.unusedVariables false
set_option linter.unusedSimpArgs false
theorem eqA32 (d : Nat) (w : World) (x0 y0 : Int) (x1 y1 : Int) :
 (Op.equalIn (d + 2) 32 (.agg #[.int .i64 x0, .int .i64 x1]) (.agg #[.int .i64 y0, .int .i64 y1])).run Try.prog w = .ok (x0 == y0 && (x1 == y1)) w := by
 refine eqA_of Try.underlying32 (by kernel_rfl) ?_
 refine eqf_cons (by rfl) (by go_simp; rfl) (by go_simp; rfl) (by go_simp) ?_
 exact eqf_last (by rfl) (by go_simp; rfl) (by go_simp; rfl) (by go_simp)
end Go.Proofs.Ytningpmoojnomaa.Pr
end
section
namespace Go.Proofs.Ytningpmoojnomaa.Pr
open Go.RowKit Go.Proofs.YtningpmoojnomaaW.PrintWords Go.Proofs.YtningpmoojnomaaW.PrintLast Go.Proofs.YtningpmoojnomaaW.PrintMore
attribute [local go_sem] max2_int min2_int max_two min_two max_three min_three max_four min_four   -- for this text's walks alone
set_option linter.unusedVariables false
set_option linter.unusedSimpArgs false
attribute [local go_sem high] eqA32
def kimberlitelaw01_same.l0 : Nat → List (S32) → List (S32) → Int → Option (Bool)
 | 0, _, _, _ => none
 | k + 1, x0, x1, x5 => if x5 < (x0.length : Int) then (if 0 ≤ x5 then (if x5 < (x1.length : Int) then (if (!(((rd_T32 x0 x5).f0) == ((rd_T32 x1 x5).f0)) || (!(((rd_T32 x0 x5).f1) == ((rd_T32 x1 x5).f1)))) = true then (some false) else (kimberlitelaw01_same.l0 k x0 x1 (wrap64 (x5 + 1)))) else (none)) else (none)) else (some true)
def kimberlitelaw01_same.f (k : Nat) (l0 : List (S32)) (l1 : List (S32)) : Option (Bool) := if (l0.length : Int) = (l1.length : Int) then (kimberlitelaw01_same.l0 k l0 l1 0) else (some false)
theorem kimberlitelaw01_same.mono_l : ∀ k, (∀ y0 y1 y2, LeO (kimberlitelaw01_same.l0 k y0 y1 y2) (kimberlitelaw01_same.l0 (k + 1) y0 y1 y2))
 | 0 => fun _ _ _ r h => by simp [kimberlitelaw01_same.l0] at h
 | k + 1 => by
  have ih0 := kimberlitelaw01_same.mono_l k
  · intro y0 y1 y2
    unfold kimberlitelaw01_same.l0
    repeat' first
    | (with_reducible exact ih0 _ _ _)
    | (with_reducible exact LeO.refl _)
    | (with_reducible exact LeO.none _)
    | (with_reducible refine LeO.ite ?_ ?_)
    | (with_reducible refine LeO.bind ?_ (fun _ => ?_))
    | exact ih0 _ _ _
    | exact LeO.none _
    | refine LeO.ite ?_ ?_
    | refine LeO.bind ?_ (fun _ => ?_)
theorem kimberlitelaw01_same.mono : ∀ a0 a1 k, LeO (kimberlitelaw01_same.f k a0 a1) (kimberlitelaw01_same.f (k + 1) a0 a1) := by
 intro a0 a1 k
 have ih0 := kimberlitelaw01_same.mono_l k
 unfold kimberlitelaw01_same.f
 repeat' first
  | (with_reducible exact ih0 _ _ _)
  | (with_reducible exact LeO.refl _)
  | (with_reducible exact LeO.none _)
  | (with_reducible refine LeO.ite ?_ ?_)
  | (with_reducible refine LeO.bind ?_ (fun _ => ?_))
  | exact ih0 _ _ _
  | exact LeO.none _
  | refine LeO.ite ?_ ?_
  | refine LeO.bind ?_ (fun _ => ?_)
set_option maxHeartbeats 8000000 in
set_option maxRecDepth 100000 in
theorem kimberlitelaw01_same.calls (k : Nat) (A0 : Option Addr) (c0 : Nat) (l0 : List (S32)) (A1 : Option Addr) (c1 : Nat) (l1 : List (S32)) (r : Bool) (w : World) (hr0 : Kd.C k32 w A0 l0.length l0) (hc0 : l0.length ≤ c0) (hr1 : Kd.C k32 w A1 l1.length l1) (hc1 : l1.length ≤ c1) (h : kimberlitelaw01_same.f k l0 l1 = some r) :
 Calls Try.prog 20 #[.slice A0 l0.length c0, .slice A1 l1.length c1] w fun e w' => e = .returned (.bool r) ∧ Drawn0 w w' := by
 have hu32 := Try.underlying32
 have HR0 := Aside0.mk hr0
 have HC0 := Aside0.mk hc0
 clear hr0 hc0
 have HR1 := Aside0.mk hr1
 have HC1 := Aside0.mk hc1
 clear hr1 hc1
 have H : (if (l0.length : Int) = (l1.length : Int) then (kimberlitelaw01_same.l0 k l0 l1 0) else (some false)) = some r := h
 clear h
 by_cases c3 : (l0.length : Int) = (l1.length : Int)
 · rw [if_pos c3] at H
   have c3b0 : ((l0.length : Int) == (l1.length : Int)) = true := beq_iff_eq.mpr c3
   have c3b1 : ((l0.length : Int) != (l1.length : Int)) = false := bne_eq_false_iff_eq.mpr c3
   have c3b2 : (l0.length == l1.length) = true := by first | simpa using c3 | (simp at c3 ⊢; omega)
   clear c3
   have H' := Aside0.mk H
   clear H
   go_enter Try.func20, Try.ntmps20
   go_wp2
   repeat (go_quiet (fail); try go_wp2)
   go_loopg [5] k (fun kq v5 w' => ∃ (x5_1 : Int), v5 = .int .i64 x5_1 ∧ Aside0 (kimberlitelaw01_same.l0 kq l0 l1 x5_1 = some r) ∧ Aside0 (kq ≤ k) ∧ Drawn0 w w')
   case atStart => exact ⟨(0), (by first | rfl | (simp; done) | (simp [*]; done)), H', ⟨Nat.le_refl _⟩, by repeat (first | exact Drawn0.refl _ | apply Drawn0.step)⟩
   case round =>
    clear H'
    try clear c1
    try clear c2
    try clear p2
    try clear c3
    try clear c3b0
    try clear c3b1
    try clear c3b2
    obtain ⟨x5_1, rfl, HA, HK1, ⟨m1, rfl⟩⟩ := hrel
    cases gk with
    | zero => exact absurd HA.out (by simp [kimberlitelaw01_same.l0])
    | succ k1 =>
     have H := HA.out
     clear HA
     simp only [kimberlitelaw01_same.l0] at H
     by_cases c4 : x5_1 < (l0.length : Int)
     · rw [if_pos c4] at H
       have c4b0 : decide (x5_1 < (l0.length : Int)) = true := decide_eq_true c4
       clear c4
       by_cases c5 : 0 ≤ x5_1
       · rw [if_pos c5] at H
         have c5b0 : decide (0 ≤ x5_1) = true := decide_eq_true c5
         clear c5
         by_cases c6 : x5_1 < (l1.length : Int)
         · rw [if_pos c6] at H
           have c6b0 : decide (x5_1 < (l1.length : Int)) = true := decide_eq_true c6
           clear c6
           by_cases c7 : (!(((rd_T32 l0 x5_1).f0) == ((rd_T32 l1 x5_1).f0)) || (!(((rd_T32 l0 x5_1).f1) == ((rd_T32 l1 x5_1).f1)))) = true
           · rw [if_pos c7] at H
             have c7b0 : (!(((rd_T32 l0 x5_1).f0) == ((rd_T32 l1 x5_1).f0)) || (!(((rd_T32 l0 x5_1).f1) == ((rd_T32 l1 x5_1).f1)))) = true := c7
             clear c7
             obtain rfl := Option.some.inj H
             have p110 : 0 ≤ (x5_1 : Int) := of_decide_eq_true (by first | (with_reducible assumption) | assumption)
             have q110 : x5_1 < (l0.length : Int) := of_decide_eq_true (by first | (with_reducible assumption) | assumption)
             obtain ⟨ad110, e110, hx110_0, hx110_1⟩ := at_T32 HR0.out x5_1 p110 q110
             cases e110
             replace p110 := eq_true p110
             replace q110 := eq_true q110
             have p111 : 0 ≤ (x5_1 : Int) := of_decide_eq_true (by first | (with_reducible assumption) | assumption)
             have q111 : x5_1 < (l1.length : Int) := of_decide_eq_true (by first | (with_reducible assumption) | assumption)
             obtain ⟨ad111, e111, hx111_0, hx111_1⟩ := at_T32 HR1.out x5_1 p111 q111
             cases e111
             replace p111 := eq_true p111
             replace q111 := eq_true q111
             go_wp2
             repeat (go_quiet (fail); try go_wp2)
             go_ret
             exact ⟨by first | rfl | (simp; done) | (simp [*]; done), by repeat (first | exact Drawn0.refl _ | apply Drawn0.step)⟩
           · rw [if_neg c7] at H
             have c7b0 : (!(((rd_T32 l0 x5_1).f0) == ((rd_T32 l1 x5_1).f0)) || (!(((rd_T32 l0 x5_1).f1) == ((rd_T32 l1 x5_1).f1)))) = false := by simpa using c7
             clear c7
             have H' := Aside0.mk H
             clear H
             have p110 : 0 ≤ (x5_1 : Int) := of_decide_eq_true (by first | (with_reducible assumption) | assumption)
             have q110 : x5_1 < (l0.length : Int) := of_decide_eq_true (by first | (with_reducible assumption) | assumption)
             obtain ⟨ad110, e110, hx110_0, hx110_1⟩ := at_T32 HR0.out x5_1 p110 q110
             cases e110
             replace p110 := eq_true p110
             replace q110 := eq_true q110
             have p111 : 0 ≤ (x5_1 : Int) := of_decide_eq_true (by first | (with_reducible assumption) | assumption)
             have q111 : x5_1 < (l1.length : Int) := of_decide_eq_true (by first | (with_reducible assumption) | assumption)
             obtain ⟨ad111, e111, hx111_0, hx111_1⟩ := at_T32 HR1.out x5_1 p111 q111
             cases e111
             replace p111 := eq_true p111
             replace q111 := eq_true q111
             go_wp2
             repeat (go_quiet (fail); try go_wp2)
             go_roundg k1
             case measure => have := HK1.out; omega
             case rel => exact ⟨(wrap64 (x5_1 + 1)), (by first | rfl | (simp; done) | (simp [*]; done)), H', ⟨by have := HK1.out; omega⟩, by repeat (first | exact Drawn0.refl _ | apply Drawn0.step)⟩
         · rw [if_neg c6] at H
           exact absurd H (by simp)
       · rw [if_neg c5] at H
         exact absurd H (by simp)
     · rw [if_neg c4] at H
       have c4b0 : decide (x5_1 < (l0.length : Int)) = false := decide_eq_false c4
       clear c4
       obtain rfl := Option.some.inj H
       go_wp2
       repeat (go_quiet (fail); try go_wp2)
       go_ret
       exact ⟨by first | rfl | (simp; done) | (simp [*]; done), by repeat (first | exact Drawn0.refl _ | apply Drawn0.step)⟩
 · rw [if_neg c3] at H
   have c3b0 : ((l0.length : Int) == (l1.length : Int)) = false := beq_eq_false_iff_ne.mpr c3
   have c3b1 : ((l0.length : Int) != (l1.length : Int)) = true := bne_iff_ne.mpr c3
   have c3b2 : (l0.length == l1.length) = false := by first | simpa using c3 | (simp at c3 ⊢; omega)
   obtain rfl := Option.some.inj H
   go_enter Try.func20, Try.ntmps20
   go_wp2
   repeat (go_quiet (fail); try go_wp2)
   go_ret
   exact ⟨by first | rfl | (simp; done) | (simp [*]; done), by repeat (first | exact Drawn0.refl _ | apply Drawn0.step)⟩
def kimberlitelaw01_alike.l0 : Nat → List Int → List Int → Int → Option (Bool)
 | 0, _, _, _ => none
 | k + 1, x0, x1, x5 => if x5 < (x0.length : Int) then (if 0 ≤ x5 then (if x5 < (x1.length : Int) then (if (rd x0 x5) = (rd x1 x5) then (kimberlitelaw01_alike.l0 k x0 x1 (wrap64 (x5 + 1))) else (some false)) else (none)) else (none)) else (some true)
def kimberlitelaw01_alike.f (k : Nat) (l0 : List Int) (l1 : List Int) : Option (Bool) := if (l0.length : Int) = (l1.length : Int) then (kimberlitelaw01_alike.l0 k l0 l1 0) else (some false)
theorem kimberlitelaw01_alike.mono_l : ∀ k, (∀ y0 y1 y2, LeO (kimberlitelaw01_alike.l0 k y0 y1 y2) (kimberlitelaw01_alike.l0 (k + 1) y0 y1 y2))
 | 0 => fun _ _ _ r h => by simp [kimberlitelaw01_alike.l0] at h
 | k + 1 => by
  have ih0 := kimberlitelaw01_alike.mono_l k
  · intro y0 y1 y2
    unfold kimberlitelaw01_alike.l0
    repeat' first
    | (with_reducible exact ih0 _ _ _)
    | (with_reducible exact LeO.refl _)
    | (with_reducible exact LeO.none _)
    | (with_reducible refine LeO.ite ?_ ?_)
    | (with_reducible refine LeO.bind ?_ (fun _ => ?_))
    | exact ih0 _ _ _
    | exact LeO.none _
    | refine LeO.ite ?_ ?_
    | refine LeO.bind ?_ (fun _ => ?_)
theorem kimberlitelaw01_alike.mono : ∀ a0 a1 k, LeO (kimberlitelaw01_alike.f k a0 a1) (kimberlitelaw01_alike.f (k + 1) a0 a1) := by
 intro a0 a1 k
 have ih0 := kimberlitelaw01_alike.mono_l k
 unfold kimberlitelaw01_alike.f
 repeat' first
  | (with_reducible exact ih0 _ _ _)
  | (with_reducible exact LeO.refl _)
  | (with_reducible exact LeO.none _)
  | (with_reducible refine LeO.ite ?_ ?_)
  | (with_reducible refine LeO.bind ?_ (fun _ => ?_))
  | exact ih0 _ _ _
  | exact LeO.none _
  | refine LeO.ite ?_ ?_
  | refine LeO.bind ?_ (fun _ => ?_)
set_option maxHeartbeats 8000000 in
set_option maxRecDepth 100000 in
theorem kimberlitelaw01_alike.calls (k : Nat) (A0 : Option Addr) (c0 : Nat) (l0 : List Int) (A1 : Option Addr) (c1 : Nat) (l1 : List Int) (r : Bool) (w : World) (hr0 : Kd.C (Kd.int .i64) w A0 l0.length l0) (hc0 : l0.length ≤ c0) (hr1 : Kd.C (Kd.int .i64) w A1 l1.length l1) (hc1 : l1.length ≤ c1) (h : kimberlitelaw01_alike.f k l0 l1 = some r) :
 Calls Try.prog 28 #[.slice A0 l0.length c0, .slice A1 l1.length c1] w fun e w' => e = .returned (.bool r) ∧ Drawn0 w w' := by
 have HR0 := Aside0.mk hr0
 have HC0 := Aside0.mk hc0
 clear hr0 hc0
 have HR1 := Aside0.mk hr1
 have HC1 := Aside0.mk hc1
 clear hr1 hc1
 have H : (if (l0.length : Int) = (l1.length : Int) then (kimberlitelaw01_alike.l0 k l0 l1 0) else (some false)) = some r := h
 clear h
 by_cases c3 : (l0.length : Int) = (l1.length : Int)
 · rw [if_pos c3] at H
   have c3b0 : ((l0.length : Int) == (l1.length : Int)) = true := beq_iff_eq.mpr c3
   have c3b1 : ((l0.length : Int) != (l1.length : Int)) = false := bne_eq_false_iff_eq.mpr c3
   have c3b2 : (l0.length == l1.length) = true := by first | simpa using c3 | (simp at c3 ⊢; omega)
   clear c3
   have H' := Aside0.mk H
   clear H
   go_enter Try.func28, Try.ntmps28
   go_wp2
   repeat (go_quiet (fail); try go_wp2)
   go_loopg [5] k (fun kq v5 w' => ∃ (x5_1 : Int), v5 = .int .i64 x5_1 ∧ Aside0 (kimberlitelaw01_alike.l0 kq l0 l1 x5_1 = some r) ∧ Aside0 (kq ≤ k) ∧ Drawn0 w w')
   case atStart => exact ⟨(0), (by first | rfl | (simp; done) | (simp [*]; done)), H', ⟨Nat.le_refl _⟩, by repeat (first | exact Drawn0.refl _ | apply Drawn0.step)⟩
   case round =>
    clear H'
    try clear c1
    try clear c2
    try clear p2
    try clear c3
    try clear c3b0
    try clear c3b1
    try clear c3b2
    obtain ⟨x5_1, rfl, HA, HK1, ⟨m1, rfl⟩⟩ := hrel
    cases gk with
    | zero => exact absurd HA.out (by simp [kimberlitelaw01_alike.l0])
    | succ k1 =>
     have H := HA.out
     clear HA
     simp only [kimberlitelaw01_alike.l0] at H
     by_cases c4 : x5_1 < (l0.length : Int)
     · rw [if_pos c4] at H
       have c4b0 : decide (x5_1 < (l0.length : Int)) = true := decide_eq_true c4
       clear c4
       by_cases c5 : 0 ≤ x5_1
       · rw [if_pos c5] at H
         have c5b0 : decide (0 ≤ x5_1) = true := decide_eq_true c5
         clear c5
         by_cases c6 : x5_1 < (l1.length : Int)
         · rw [if_pos c6] at H
           have c6b0 : decide (x5_1 < (l1.length : Int)) = true := decide_eq_true c6
           clear c6
           by_cases c7 : (rd l0 x5_1) = (rd l1 x5_1)
           · rw [if_pos c7] at H
             have c7b0 : ((rd l0 x5_1) == (rd l1 x5_1)) = true := beq_iff_eq.mpr c7
             have c7b1 : ((rd l0 x5_1) != (rd l1 x5_1)) = false := bne_eq_false_iff_eq.mpr c7
             clear c7
             have H' := Aside0.mk H
             clear H
             have p112 : 0 ≤ (x5_1 : Int) := of_decide_eq_true (by first | (with_reducible assumption) | assumption)
             have q112 : x5_1 < (l0.length : Int) := of_decide_eq_true (by first | (with_reducible assumption) | assumption)
             obtain ⟨ad112, e112, hx112_0⟩ := Kd.at_int HR0.out x5_1 p112 q112
             cases e112
             replace p112 := eq_true p112
             replace q112 := eq_true q112
             have p113 : 0 ≤ (x5_1 : Int) := of_decide_eq_true (by first | (with_reducible assumption) | assumption)
             have q113 : x5_1 < (l1.length : Int) := of_decide_eq_true (by first | (with_reducible assumption) | assumption)
             obtain ⟨ad113, e113, hx113_0⟩ := Kd.at_int HR1.out x5_1 p113 q113
             cases e113
             replace p113 := eq_true p113
             replace q113 := eq_true q113
             go_wp2
             repeat (go_quiet (fail); try go_wp2)
             go_roundg k1
             case measure => have := HK1.out; omega
             case rel => exact ⟨(wrap64 (x5_1 + 1)), (by first | rfl | (simp; done) | (simp [*]; done)), H', ⟨by have := HK1.out; omega⟩, by repeat (first | exact Drawn0.refl _ | apply Drawn0.step)⟩
           · rw [if_neg c7] at H
             have c7b0 : ((rd l0 x5_1) == (rd l1 x5_1)) = false := beq_eq_false_iff_ne.mpr c7
             have c7b1 : ((rd l0 x5_1) != (rd l1 x5_1)) = true := bne_iff_ne.mpr c7
             obtain rfl := Option.some.inj H
             have p112 : 0 ≤ (x5_1 : Int) := of_decide_eq_true (by first | (with_reducible assumption) | assumption)
             have q112 : x5_1 < (l0.length : Int) := of_decide_eq_true (by first | (with_reducible assumption) | assumption)
             obtain ⟨ad112, e112, hx112_0⟩ := Kd.at_int HR0.out x5_1 p112 q112
             cases e112
             replace p112 := eq_true p112
             replace q112 := eq_true q112
             have p113 : 0 ≤ (x5_1 : Int) := of_decide_eq_true (by first | (with_reducible assumption) | assumption)
             have q113 : x5_1 < (l1.length : Int) := of_decide_eq_true (by first | (with_reducible assumption) | assumption)
             obtain ⟨ad113, e113, hx113_0⟩ := Kd.at_int HR1.out x5_1 p113 q113
             cases e113
             replace p113 := eq_true p113
             replace q113 := eq_true q113
             go_wp2
             repeat (go_quiet (fail); try go_wp2)
             go_ret
             exact ⟨by first | rfl | (simp; done) | (simp [*]; done), by repeat (first | exact Drawn0.refl _ | apply Drawn0.step)⟩
         · rw [if_neg c6] at H
           exact absurd H (by simp)
       · rw [if_neg c5] at H
         exact absurd H (by simp)
     · rw [if_neg c4] at H
       have c4b0 : decide (x5_1 < (l0.length : Int)) = false := decide_eq_false c4
       clear c4
       obtain rfl := Option.some.inj H
       go_wp2
       repeat (go_quiet (fail); try go_wp2)
       go_ret
       exact ⟨by first | rfl | (simp; done) | (simp [*]; done), by repeat (first | exact Drawn0.refl _ | apply Drawn0.step)⟩
 · rw [if_neg c3] at H
   have c3b0 : ((l0.length : Int) == (l1.length : Int)) = false := beq_eq_false_iff_ne.mpr c3
   have c3b1 : ((l0.length : Int) != (l1.length : Int)) = true := bne_iff_ne.mpr c3
   have c3b2 : (l0.length == l1.length) = false := by first | simpa using c3 | (simp at c3 ⊢; omega)
   obtain rfl := Option.some.inj H
   go_enter Try.func28, Try.ntmps28
   go_wp2
   repeat (go_quiet (fail); try go_wp2)
   go_ret
   exact ⟨by first | rfl | (simp; done) | (simp [*]; done), by repeat (first | exact Drawn0.refl _ | apply Drawn0.step)⟩
end Go.Proofs.Ytningpmoojnomaa.Pr
end
section
namespace Go.Proofs.Ytningpmoojnomaa.Pr
open Go.RowKit Go.Proofs.YtningpmoojnomaaW.PrintWords Go.Proofs.YtningpmoojnomaaW.PrintLast Go.Proofs.YtningpmoojnomaaW.PrintMore
attribute [local go_sem high] eqA32
set_option linter.unusedVariables false
set_option linter.unusedSimpArgs false
def markS : S32 := ⟨7, 77⟩
/-- The row that own makes, whole: the spans and the mark. -/
def Full (w : World) (base b c : Nat) (l : List S32) : Prop := Kd.R k32 32 w base (fun k_ => k_ = b) (.slice (some ⟨b, 0, none⟩) (l.length + 1) c) (l ++ [markS])
section
variable {w w1 : World} {base b c : Nat} {l : List S32}
theorem Full.below (h : Full w base b c l) (hb : Below w.heap.size w w1) : Full w1 base b c l := Kd.R_below h hb
theorem Full.grown (h : Full w base b c l) {row : Option Nat} (hg : w.grownBy w1 row) (hne : some b ≠ row) : Full w1 base b c l := Kd.R_grown h hg (fun k hk => by rw [hk]; exact hne)
theorem Full.lt (h : Full w base b c l) : b < w.heap.size := by
  obtain ⟨inner, ho⟩ := Kd.R_own h
  exact own_lt ho b rfl
theorem Full.cap (h : Full w base b c l) : l.length + 1 ≤ c := by
  obtain ⟨A, c', he, hl, _⟩ := Kd.R_reads h
  injection he with _ _ h3
  subst h3
  simpa using hl
theorem Full.reads (h : Full w base b c l) : Kd.C k32 w (some ⟨b, 0, none⟩) l.length l := by
  have h1 := Kd.R_take h (m := l.length) (by simp)
  rw [List.take_append_of_le_length (Nat.le_refl _), List.take_of_length_le (Nat.le_refl _)] at h1
  exact (Kd.R_reads' h1).2.2
end
theorem wrapS_succ {i n : Nat} (h : i < n) (hn : n ≤ 9223372036854775807) : wrap64 ((i : Int) + 1) = ((i + 1 : Nat) : Int) := by
  unfold wrap64
  omega
theorem same_loop (l : List S32) (hn : l.length ≤ 9223372036854775807) : ∀ (d i : Nat), l.length - i = d → Ev (fun k => kimberlitelaw01_same.l0 k l l (i : Int)) true
  | 0, i, h => Ev.step (f := fun _ => some true) (fun k => by simp only [kimberlitelaw01_same.l0]; rw [if_neg (by omega)]) (Ev.now _)
  | d + 1, i, h => by
    have hi : i < l.length := by omega
    refine Ev.step (f := fun k => kimberlitelaw01_same.l0 k l l ((i + 1 : Nat) : Int)) (fun k => ?_) (same_loop l hn d (i + 1) (by omega))
    simp only [kimberlitelaw01_same.l0]
    rw [if_pos (by omega), if_pos (by omega), if_pos (by omega), wrapS_succ hi hn]
    simp
theorem same_self (l : List S32) (hn : l.length ≤ 9223372036854775807) : ∃ k, kimberlitelaw01_same.f k l l = some true := by
  refine Ev.rounds ?_
  unfold kimberlitelaw01_same.f
  simpa using same_loop l hn _ 0 rfl
end Go.Proofs.Ytningpmoojnomaa.Pr
end
