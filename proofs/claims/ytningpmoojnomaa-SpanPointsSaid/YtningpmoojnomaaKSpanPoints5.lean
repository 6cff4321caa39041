/- What the proof of the law needs, trimmed and merged by wip/pack.py out of the texts YtningpmoojnomaaPrx22, YtningpmoojnomaaPrx27, YtningpmoojnomaaDep, YtningpmoojnomaaStb, YtningpmoojnomaaExtStb. No condition. -/
import Derived.Sort.WalkA
import Derived.Sort.LotA
import Derived.Shelf.SlSortCmp.Kit1
import Derived.Shelf.SlSortCmp.Insertion1
import Derived.Sort.WalkB2
import Derived.Sort.WalkB12
import Derived.Deep.LoopGhost
import Derived.Test.YtningpmoojnomaaKSpanPoints0
import Derived.Test.YtningpmoojnomaaKSpanPoints1
import Derived.Test.YtningpmoojnomaaKSpanPoints2
import Derived.Test.YtningpmoojnomaaKSpanPoints3
import Derived.Test.YtningpmoojnomaaKSpanPoints4
section
namespace Go.Proofs.Ytningpmoojnomaa.Pr
open Go.RowKit Go.Proofs.YtningpmoojnomaaW.PrintWords Go.Proofs.YtningpmoojnomaaW.PrintLast Go.Proofs.YtningpmoojnomaaW.PrintMore
attribute [local go_sem] max2_int min2_int max_two min_two max_three min_three max_four min_four   -- for this text's walks alone
set_option linter.unusedVariables false
set_option linter.unusedSimpArgs false
mutual
def kimberliteref01_Depth.l0 : Nat → List (S32) → Int → Int → Int → Option (Int × Int × Int)
 | 0, _, _, _, _ => none
 | k + 1, x0, x6, x7, x8 => if x8 < (x0.length : Int) then (kimberliteref01_Depth.l1 k x0 x6 x7 x8 0 0) else (some (x6, x7, 0))
def kimberliteref01_Depth.l1 : Nat → List (S32) → Int → Int → Int → Int → Int → Option (Int × Int × Int)
 | 0, _, _, _, _, _, _ => none
 | k + 1, x0, x6, x7, x8, x9, x10 => if x10 < (x0.length : Int) then (if 0 ≤ x10 then (if 0 ≤ x8 then (if x8 < (x0.length : Int) then (if ((rd_T32 x0 x10).f0) ≤ ((rd_T32 x0 x8).f0) then (kimberliteref01_Depth.j2 k x0 x6 x7 x8 x9 x10 (decide (((rd_T32 x0 x8).f0) < ((rd_T32 x0 x10).f1)))) else (kimberliteref01_Depth.j2 k x0 x6 x7 x8 x9 x10 false)) else (none)) else (none)) else (none)) else (if x9 > x6 then (kimberliteref01_Depth.j3 k x0 x6 x7 x8 x9 true) else (if x9 = x6 then (if 0 ≤ x8 then (if x8 < (x0.length : Int) then (kimberliteref01_Depth.j3 k x0 x6 x7 x8 x9 (decide (((rd_T32 x0 x8).f0) < x7))) else (none)) else (none)) else (kimberliteref01_Depth.j3 k x0 x6 x7 x8 x9 false)))
def kimberliteref01_Depth.j2 : Nat → List (S32) → Int → Int → Int → Int → Int → Bool → Option (Int × Int × Int)
 | 0, _, _, _, _, _, _, _ => none
 | k + 1, x0, x6, x7, x8, x9, x10, x51 => if x51 = true then (kimberliteref01_Depth.l1 k x0 x6 x7 x8 (wrap64 (x9 + 1)) (wrap64 (x10 + 1))) else (kimberliteref01_Depth.l1 k x0 x6 x7 x8 x9 (wrap64 (x10 + 1)))
def kimberliteref01_Depth.j3 : Nat → List (S32) → Int → Int → Int → Int → Bool → Option (Int × Int × Int)
 | 0, _, _, _, _, _, _ => none
 | k + 1, x0, x6, x7, x8, x9, x70 => if x70 = true then (if 0 ≤ x8 then (if x8 < (x0.length : Int) then (kimberliteref01_Depth.l0 k x0 x9 ((rd_T32 x0 x8).f0) (wrap64 (x8 + 1))) else (none)) else (none)) else (kimberliteref01_Depth.l0 k x0 x6 x7 (wrap64 (x8 + 1)))
end
def kimberliteref01_Depth.f (k : Nat) (l0 : List (S32)) : Option (Int × Int × Int) := (kimberliteref01_List.f k l0).bind fun t330 => (if t330 = 0 then (kimberliteref01_Depth.l0 k l0 0 0 0) else (some (0, 0, t330)))
theorem kimberliteref01_Depth.mono_l : ∀ k, (∀ y0 y1 y2 y3, LeO (kimberliteref01_Depth.l0 k y0 y1 y2 y3) (kimberliteref01_Depth.l0 (k + 1) y0 y1 y2 y3)) ∧ (∀ y0 y1 y2 y3 y4 y5, LeO (kimberliteref01_Depth.l1 k y0 y1 y2 y3 y4 y5) (kimberliteref01_Depth.l1 (k + 1) y0 y1 y2 y3 y4 y5)) ∧ (∀ y0 y1 y2 y3 y4 y5 y6, LeO (kimberliteref01_Depth.j2 k y0 y1 y2 y3 y4 y5 y6) (kimberliteref01_Depth.j2 (k + 1) y0 y1 y2 y3 y4 y5 y6)) ∧ (∀ y0 y1 y2 y3 y4 y5, LeO (kimberliteref01_Depth.j3 k y0 y1 y2 y3 y4 y5) (kimberliteref01_Depth.j3 (k + 1) y0 y1 y2 y3 y4 y5))
 | 0 => ⟨fun _ _ _ _ r h => by simp [kimberliteref01_Depth.l0] at h, fun _ _ _ _ _ _ r h => by simp [kimberliteref01_Depth.l1] at h, fun _ _ _ _ _ _ _ r h => by simp [kimberliteref01_Depth.j2] at h, fun _ _ _ _ _ _ r h => by simp [kimberliteref01_Depth.j3] at h⟩
 | k + 1 => by
  obtain ⟨ih0, ih1, ih2, ih3⟩ := kimberliteref01_Depth.mono_l k
  refine ⟨?_, ?_, ?_, ?_⟩
  · intro y0 y1 y2 y3
    unfold kimberliteref01_Depth.l0
    repeat' first
    | (with_reducible exact ih0 _ _ _ _)
    | (with_reducible exact ih1 _ _ _ _ _ _)
    | (with_reducible exact ih2 _ _ _ _ _ _ _)
    | (with_reducible exact ih3 _ _ _ _ _ _)
    | (with_reducible exact kimberliteref01_List.mono _ _)
    | (with_reducible exact LeO.refl _)
    | (with_reducible exact LeO.none _)
    | (with_reducible refine LeO.ite ?_ ?_)
    | (with_reducible refine LeO.bind ?_ (fun _ => ?_))
    | exact ih0 _ _ _ _
    | exact ih1 _ _ _ _ _ _
    | exact ih2 _ _ _ _ _ _ _
    | exact ih3 _ _ _ _ _ _
    | exact kimberliteref01_List.mono _ _
    | exact LeO.none _
    | refine LeO.ite ?_ ?_
    | refine LeO.bind ?_ (fun _ => ?_)
  · intro y0 y1 y2 y3 y4 y5
    unfold kimberliteref01_Depth.l1
    repeat' first
    | (with_reducible exact ih0 _ _ _ _)
    | (with_reducible exact ih1 _ _ _ _ _ _)
    | (with_reducible exact ih2 _ _ _ _ _ _ _)
    | (with_reducible exact ih3 _ _ _ _ _ _)
    | (with_reducible exact kimberliteref01_List.mono _ _)
    | (with_reducible exact LeO.refl _)
    | (with_reducible exact LeO.none _)
    | (with_reducible refine LeO.ite ?_ ?_)
    | (with_reducible refine LeO.bind ?_ (fun _ => ?_))
    | exact ih0 _ _ _ _
    | exact ih1 _ _ _ _ _ _
    | exact ih2 _ _ _ _ _ _ _
    | exact ih3 _ _ _ _ _ _
    | exact kimberliteref01_List.mono _ _
    | exact LeO.none _
    | refine LeO.ite ?_ ?_
    | refine LeO.bind ?_ (fun _ => ?_)
  · intro y0 y1 y2 y3 y4 y5 y6
    unfold kimberliteref01_Depth.j2
    repeat' first
    | (with_reducible exact ih0 _ _ _ _)
    | (with_reducible exact ih1 _ _ _ _ _ _)
    | (with_reducible exact ih2 _ _ _ _ _ _ _)
    | (with_reducible exact ih3 _ _ _ _ _ _)
    | (with_reducible exact kimberliteref01_List.mono _ _)
    | (with_reducible exact LeO.refl _)
    | (with_reducible exact LeO.none _)
    | (with_reducible refine LeO.ite ?_ ?_)
    | (with_reducible refine LeO.bind ?_ (fun _ => ?_))
    | exact ih0 _ _ _ _
    | exact ih1 _ _ _ _ _ _
    | exact ih2 _ _ _ _ _ _ _
    | exact ih3 _ _ _ _ _ _
    | exact kimberliteref01_List.mono _ _
    | exact LeO.none _
    | refine LeO.ite ?_ ?_
    | refine LeO.bind ?_ (fun _ => ?_)
  · intro y0 y1 y2 y3 y4 y5
    unfold kimberliteref01_Depth.j3
    repeat' first
    | (with_reducible exact ih0 _ _ _ _)
    | (with_reducible exact ih1 _ _ _ _ _ _)
    | (with_reducible exact ih2 _ _ _ _ _ _ _)
    | (with_reducible exact ih3 _ _ _ _ _ _)
    | (with_reducible exact kimberliteref01_List.mono _ _)
    | (with_reducible exact LeO.refl _)
    | (with_reducible exact LeO.none _)
    | (with_reducible refine LeO.ite ?_ ?_)
    | (with_reducible refine LeO.bind ?_ (fun _ => ?_))
    | exact ih0 _ _ _ _
    | exact ih1 _ _ _ _ _ _
    | exact ih2 _ _ _ _ _ _ _
    | exact ih3 _ _ _ _ _ _
    | exact kimberliteref01_List.mono _ _
    | exact LeO.none _
    | refine LeO.ite ?_ ?_
    | refine LeO.bind ?_ (fun _ => ?_)
theorem kimberliteref01_Depth.mono : ∀ a0 k, LeO (kimberliteref01_Depth.f k a0) (kimberliteref01_Depth.f (k + 1) a0) := by
 intro a0 k
 obtain ⟨ih0, ih1, ih2, ih3⟩ := kimberliteref01_Depth.mono_l k
 unfold kimberliteref01_Depth.f
 repeat' first
  | (with_reducible exact ih0 _ _ _ _)
  | (with_reducible exact ih1 _ _ _ _ _ _)
  | (with_reducible exact ih2 _ _ _ _ _ _ _)
  | (with_reducible exact ih3 _ _ _ _ _ _)
  | (with_reducible exact kimberliteref01_List.mono _ _)
  | (with_reducible exact LeO.refl _)
  | (with_reducible exact LeO.none _)
  | (with_reducible refine LeO.ite ?_ ?_)
  | (with_reducible refine LeO.bind ?_ (fun _ => ?_))
  | exact ih0 _ _ _ _
  | exact ih1 _ _ _ _ _ _
  | exact ih2 _ _ _ _ _ _ _
  | exact ih3 _ _ _ _ _ _
  | exact kimberliteref01_List.mono _ _
  | exact LeO.none _
  | refine LeO.ite ?_ ?_
  | refine LeO.bind ?_ (fun _ => ?_)
set_option maxHeartbeats 8000000 in
set_option maxRecDepth 100000 in
theorem kimberliteref01_Depth.calls (k : Nat) (A0 : Option Addr) (c0 : Nat) (l0 : List (S32)) (r1 : Int) (r2 : Int) (r3 : Int) (w : World) (hr0 : Kd.C k32 w A0 l0.length l0) (hc0 : l0.length ≤ c0) (h : kimberliteref01_Depth.f k l0 = some (r1, r2, r3)) :
 Calls Try.prog 49 #[.slice A0 l0.length c0] w fun e w' => e = .returned (.tuple #[.int .i64 r1, .int .i64 r2, .int .i64 r3]) ∧ Below w.heap.size w w' := by
 have HR0 := Aside0.mk hr0
 have HC0 := Aside0.mk hc0
 clear hr0 hc0
 have HB := Aside0.mk (Below.refl w.heap.size w)
 have H : ((kimberliteref01_List.f k l0).bind fun t330 => (if t330 = 0 then (kimberliteref01_Depth.l0 k l0 0 0 0) else (some (0, 0, t330)))) = some (r1, r2, r3) := h
 clear h
 replace H := Option.bind_eq_some_iff.mp H
 obtain ⟨t330, A20, H⟩ := H
 replace H : (if t330 = 0 then (kimberliteref01_Depth.l0 k l0 0 0 0) else (some (0, 0, t330))) = some (r1, r2, r3) := H
 have A2 := Aside0.mk A20
 clear A20
 by_cases c3 : t330 = 0
 · rw [if_pos c3] at H
   have c3b0 : (t330 == 0) = true := beq_iff_eq.mpr c3
   have c3b1 : (t330 != 0) = false := bne_eq_false_iff_eq.mpr c3
   clear c3
   have H' := Aside0.mk H
   clear H
   go_enter Try.func49, Try.ntmps49
   go_wp2_with (first | (go_at_call 62; (with_reducible refine (kimberliteref01_List.calls k _ _ l0 t330 _ ?side1 ?side2 A2.out).mono ?_); (case side1 => repeat (first | exact HR0.out | (with_reducible refine Kd.C_alloc ?_ _) | (with_reducible refine Kd.C_drewN ?_ _) | (with_reducible refine Kd.C_drew ?_))); (case side2 => exact HC0.out); rintro e w4 ⟨rfl, hb⟩; have n0_ := Aside0.mk (below_step (by repeat (first | (with_reducible first | exact HB.out | apply below_alloc | apply pw_below_drewN | apply below_drew1) | exact HB.out)) hb); clear HB; have HB := n0_; clear n0_; (try clear hb); (try clear hb2); (try clear hk); (try clear hi)))
   repeat (go_quiet (first | (go_at_call 62; (with_reducible refine (kimberliteref01_List.calls k _ _ l0 t330 _ ?side1 ?side2 A2.out).mono ?_); (case side1 => repeat (first | exact HR0.out | (with_reducible refine Kd.C_alloc ?_ _) | (with_reducible refine Kd.C_drewN ?_ _) | (with_reducible refine Kd.C_drew ?_))); (case side2 => exact HC0.out); rintro e w4 ⟨rfl, hb⟩; have n0_ := Aside0.mk (below_step (by repeat (first | (with_reducible first | exact HB.out | apply below_alloc | apply pw_below_drewN | apply below_drew1) | exact HB.out)) hb); clear HB; have HB := n0_; clear n0_; (try clear hb); (try clear hb2); (try clear hk); (try clear hi))); try go_wp2_with (first | (go_at_call 62; (with_reducible refine (kimberliteref01_List.calls k _ _ l0 t330 _ ?side1 ?side2 A2.out).mono ?_); (case side1 => repeat (first | exact HR0.out | (with_reducible refine Kd.C_alloc ?_ _) | (with_reducible refine Kd.C_drewN ?_ _) | (with_reducible refine Kd.C_drew ?_))); (case side2 => exact HC0.out); rintro e w4 ⟨rfl, hb⟩; have n0_ := Aside0.mk (below_step (by repeat (first | (with_reducible first | exact HB.out | apply below_alloc | apply pw_below_drewN | apply below_drew1) | exact HB.out)) hb); clear HB; have HB := n0_; clear n0_; (try clear hb); (try clear hb2); (try clear hk); (try clear hi))))
   go_loopg [6, 7, 8] k (fun kq v6 v7 v8 w' => ∃ (x6_1 : Int) (x7_1 : Int) (x8_1 : Int), v6 = .int .i64 x6_1 ∧ v7 = .int .i64 x7_1 ∧ v8 = .int .i64 x8_1 ∧ Aside0 (kimberliteref01_Depth.l0 kq l0 x6_1 x7_1 x8_1 = some (r1, r2, r3)) ∧ Aside0 (kq ≤ k) ∧ Aside0 (Below w.heap.size w w'))
   case atStart => exact ⟨(0), (0), (0), (by first | rfl | (simp; done) | (simp [*]; done)), (by first | rfl | (simp; done) | (simp [*]; done)), (by first | rfl | (simp; done) | (simp [*]; done)), H', ⟨Nat.le_refl _⟩, ⟨by repeat (first | (with_reducible first | exact HB.out | apply below_alloc | apply pw_below_drewN | apply below_drew1) | exact HB.out)⟩⟩
   case round =>
    clear H'
    try clear p2
    try clear c3
    try clear c3b0
    try clear c3b1
    try clear c4
    obtain ⟨x6_1, x7_1, x8_1, rfl, rfl, rfl, HA, HK1, HB⟩ := hrel
    cases gk with
    | zero => exact absurd HA.out (by simp [kimberliteref01_Depth.l0])
    | succ k1 =>
     have H := HA.out
     clear HA
     simp only [kimberliteref01_Depth.l0] at H
     by_cases c5 : x8_1 < (l0.length : Int)
     · rw [if_pos c5] at H
       have c5b0 : decide (x8_1 < (l0.length : Int)) = true := decide_eq_true c5
       clear c5
       have H' := Aside0.mk H
       clear H
       go_wp2
       repeat (go_quiet (fail); try go_wp2)
       go_loopg [9, 10] k1 (fun kq v9 v10 w' => ∃ (x9_2 : Int) (x10_2 : Int), v9 = .int .i64 x9_2 ∧ v10 = .int .i64 x10_2 ∧ Aside0 (kimberliteref01_Depth.l1 kq l0 x6_1 x7_1 x8_1 x9_2 x10_2 = some (r1, r2, r3)) ∧ Aside0 (kq ≤ k1) ∧ Aside0 (Below w.heap.size w w'))
       case atStart => exact ⟨(0), (0), (by first | rfl | (simp; done) | (simp [*]; done)), (by first | rfl | (simp; done) | (simp [*]; done)), H', ⟨Nat.le_refl _⟩, ⟨by repeat (first | (with_reducible first | exact HB.out | apply below_alloc | apply pw_below_drewN | apply below_drew1) | exact HB.out)⟩⟩
       case round =>
        clear H'
        try clear p2
        try clear c3
        try clear c3b0
        try clear c3b1
        try clear c4
        try clear c5
        try clear c5b0
        try clear p2
        obtain ⟨x9_2, x10_2, rfl, rfl, HA, HK2, HB⟩ := hrel
        cases gk with
        | zero => exact absurd HA.out (by simp [kimberliteref01_Depth.l1])
        | succ k2 =>
         have H := HA.out
         clear HA
         simp only [kimberliteref01_Depth.l1] at H
         by_cases c6 : x10_2 < (l0.length : Int)
         · rw [if_pos c6] at H
           have c6b0 : decide (x10_2 < (l0.length : Int)) = true := decide_eq_true c6
           clear c6
           have HC7 := Aside0.mk H
           clear H
           go_upto_region 12 with (fail)
           repeat (go_quiet (fail); go_upto_region 12 with (fail))
           go_cut [51] (fun v51 wc => ∃ (kq : Nat) (x51_6 : Bool), v51 = .bool x51_6 ∧ Aside0 (kimberliteref01_Depth.j2 kq l0 x6_1 x7_1 x8_1 x9_2 x10_2 x51_6 = some (r1, r2, r3)) ∧ Aside0 (kq ≤ k2) ∧ Aside0 (Below w.heap.size w wc))
           case first =>
            have H := HC7.out
            clear HC7
            by_cases c8 : 0 ≤ x10_2
            · rw [if_pos c8] at H
              have c8b0 : decide (0 ≤ x10_2) = true := decide_eq_true c8
              clear c8
              (first | rw [c8b0] | (simp only [i64_w, i32_w]; rw [c8b0]) | skip)
              by_cases c9 : 0 ≤ x8_1
              · rw [if_pos c9] at H
                have c9b0 : decide (0 ≤ x8_1) = true := decide_eq_true c9
                clear c9
                by_cases c10 : x8_1 < (l0.length : Int)
                · rw [if_pos c10] at H
                  have c10b0 : decide (x8_1 < (l0.length : Int)) = true := decide_eq_true c10
                  clear c10
                  by_cases c11 : ((rd_T32 l0 x10_2).f0) ≤ ((rd_T32 l0 x8_1).f0)
                  · rw [if_pos c11] at H
                    have c11b0 : decide (((rd_T32 l0 x10_2).f0) ≤ ((rd_T32 l0 x8_1).f0)) = true := decide_eq_true c11
                    clear c11
                    have H' := Aside0.mk H
                    clear H
                    have p331 : 0 ≤ (x10_2 : Int) := of_decide_eq_true (by first | (with_reducible assumption) | assumption)
                    have q331 : x10_2 < (l0.length : Int) := of_decide_eq_true (by first | (with_reducible assumption) | assumption)
                    obtain ⟨ad331, e331, hx331_0, hx331_1⟩ := at_T32 HR0.out x10_2 p331 q331
                    cases e331
                    replace hx331_0 := (HB.out.cell (World.block_lt_of_cell? w _ hx331_0)).trans hx331_0
                    replace hx331_1 := (HB.out.cell (World.block_lt_of_cell? w _ hx331_1)).trans hx331_1
                    replace p331 := eq_true p331
                    replace q331 := eq_true q331
                    have p332 : 0 ≤ (x8_1 : Int) := of_decide_eq_true (by first | (with_reducible assumption) | assumption)
                    have q332 : x8_1 < (l0.length : Int) := of_decide_eq_true (by first | (with_reducible assumption) | assumption)
                    obtain ⟨ad332, e332, hx332_0, hx332_1⟩ := at_T32 HR0.out x8_1 p332 q332
                    obtain rfl : ad331 = ad332 := (by injection e332)
                    replace hx332_0 := (HB.out.cell (World.block_lt_of_cell? w _ hx332_0)).trans hx332_0
                    replace hx332_1 := (HB.out.cell (World.block_lt_of_cell? w _ hx332_1)).trans hx332_1
                    replace p332 := eq_true p332
                    replace q332 := eq_true q332
                    have p333 : 0 ≤ (x8_1 : Int) := of_decide_eq_true (by first | (with_reducible assumption) | assumption)
                    have q333 : x8_1 < (l0.length : Int) := of_decide_eq_true (by first | (with_reducible assumption) | assumption)
                    obtain ⟨ad333, e333, hx333_0, hx333_1⟩ := at_T32 HR0.out x8_1 p333 q333
                    obtain rfl : ad331 = ad333 := (by injection e333)
                    replace hx333_0 := (HB.out.cell (World.block_lt_of_cell? w _ hx333_0)).trans hx333_0
                    replace hx333_1 := (HB.out.cell (World.block_lt_of_cell? w _ hx333_1)).trans hx333_1
                    replace p333 := eq_true p333
                    replace q333 := eq_true q333
                    have p334 : 0 ≤ (x10_2 : Int) := of_decide_eq_true (by first | (with_reducible assumption) | assumption)
                    have q334 : x10_2 < (l0.length : Int) := of_decide_eq_true (by first | (with_reducible assumption) | assumption)
                    obtain ⟨ad334, e334, hx334_0, hx334_1⟩ := at_T32 HR0.out x10_2 p334 q334
                    obtain rfl : ad331 = ad334 := (by injection e334)
                    replace hx334_0 := (HB.out.cell (World.block_lt_of_cell? w _ hx334_0)).trans hx334_0
                    replace hx334_1 := (HB.out.cell (World.block_lt_of_cell? w _ hx334_1)).trans hx334_1
                    replace p334 := eq_true p334
                    replace q334 := eq_true q334
                    go_wp2
                    repeat (go_quiet (fail); try go_wp2)
                    go_meet
                    case rel => exact ⟨_, (decide (((rd_T32 l0 x8_1).f0) < ((rd_T32 l0 x10_2).f1))), (by first | rfl | (simp; done) | (simp [*]; done)), H', ⟨by have := HK1.out; have := HK2.out; first | omega | exact Nat.le_refl _⟩, ⟨by repeat (first | (with_reducible first | exact HB.out | apply below_alloc | apply pw_below_drewN | apply below_drew1) | exact HB.out)⟩⟩
                  · rw [if_neg c11] at H
                    have c11b0 : decide (((rd_T32 l0 x10_2).f0) ≤ ((rd_T32 l0 x8_1).f0)) = false := decide_eq_false c11
                    clear c11
                    have H' := Aside0.mk H
                    clear H
                    have p331 : 0 ≤ (x10_2 : Int) := of_decide_eq_true (by first | (with_reducible assumption) | assumption)
                    have q331 : x10_2 < (l0.length : Int) := of_decide_eq_true (by first | (with_reducible assumption) | assumption)
                    obtain ⟨ad331, e331, hx331_0, hx331_1⟩ := at_T32 HR0.out x10_2 p331 q331
                    cases e331
                    replace hx331_0 := (HB.out.cell (World.block_lt_of_cell? w _ hx331_0)).trans hx331_0
                    replace hx331_1 := (HB.out.cell (World.block_lt_of_cell? w _ hx331_1)).trans hx331_1
                    replace p331 := eq_true p331
                    replace q331 := eq_true q331
                    have p332 : 0 ≤ (x8_1 : Int) := of_decide_eq_true (by first | (with_reducible assumption) | assumption)
                    have q332 : x8_1 < (l0.length : Int) := of_decide_eq_true (by first | (with_reducible assumption) | assumption)
                    obtain ⟨ad332, e332, hx332_0, hx332_1⟩ := at_T32 HR0.out x8_1 p332 q332
                    obtain rfl : ad331 = ad332 := (by injection e332)
                    replace hx332_0 := (HB.out.cell (World.block_lt_of_cell? w _ hx332_0)).trans hx332_0
                    replace hx332_1 := (HB.out.cell (World.block_lt_of_cell? w _ hx332_1)).trans hx332_1
                    replace p332 := eq_true p332
                    replace q332 := eq_true q332
                    go_wp2
                    repeat (go_quiet (fail); try go_wp2)
                    go_meet
                    case rel => exact ⟨_, (false), (by first | rfl | (simp; done) | (simp [*]; done)), H', ⟨by have := HK1.out; have := HK2.out; first | omega | exact Nat.le_refl _⟩, ⟨by repeat (first | (with_reducible first | exact HB.out | apply below_alloc | apply pw_below_drewN | apply below_drew1) | exact HB.out)⟩⟩
                · rw [if_neg c10] at H
                  exact absurd H (by simp)
              · rw [if_neg c9] at H
                exact absurd H (by simp)
            · rw [if_neg c8] at H
              exact absurd H (by simp)
           case rest =>
            clear HC7
            try clear c1
            try clear p2
            try clear c3
            try clear c3b0
            try clear c3b1
            try clear p3
            try clear q3
            try clear hx3
            try clear c4
            try clear c5
            try clear c5b0
            try clear c6
            try clear c6b0
            try clear c8
            try clear c8b0
            try clear c9
            try clear c9b0
            try clear c10
            try clear c10b0
            try clear c11
            try clear c11b0
            try clear hx331_0
            try clear hx331_1
            try clear hx332_0
            try clear hx332_1
            try clear hx333_0
            try clear hx333_1
            try clear hx334_0
            try clear hx334_1
            try clear p2
            try clear p331
            try clear p332
            try clear p333
            try clear p334
            try clear q331
            try clear q332
            try clear q333
            try clear q334
            obtain ⟨kq, x51_6, rfl, HA, HJ6, HB⟩ := hcut
            cases kq with
            | zero => exact absurd HA.out (by simp [kimberliteref01_Depth.j2])
            | succ kj6 =>
             have H := HA.out
             clear HA
             simp only [kimberliteref01_Depth.j2] at H
             by_cases c12 : x51_6 = true
             · subst c12
               have H1 : (kimberliteref01_Depth.l1 kj6 l0 x6_1 x7_1 x8_1 (wrap64 (x9_2 + 1)) (wrap64 (x10_2 + 1))) = some (r1, r2, r3) := by rw [if_pos rfl] at H; exact H
               clear H
               have H := H1
               clear H1
               have H' := Aside0.mk H
               clear H
               go_wp2
               repeat (go_quiet (fail); try go_wp2)
               go_roundg kj6
               case measure => have := HK1.out; have := HK2.out; have := HJ6.out; omega
               case rel => exact ⟨(wrap64 (x9_2 + 1)), (wrap64 (x10_2 + 1)), (by first | rfl | (simp; done) | (simp [*]; done)), (by first | rfl | (simp; done) | (simp [*]; done)), H', ⟨by have := HK1.out; have := HK2.out; have := HJ6.out; omega⟩, ⟨by repeat (first | (with_reducible first | exact HB.out | apply below_alloc | apply pw_below_drewN | apply below_drew1) | exact HB.out)⟩⟩
             · replace c12 := Bool.eq_false_iff.mpr c12
               subst c12
               have H1 : (kimberliteref01_Depth.l1 kj6 l0 x6_1 x7_1 x8_1 x9_2 (wrap64 (x10_2 + 1))) = some (r1, r2, r3) := by rw [if_neg (show ¬ (false = true) by decide)] at H; exact H
               clear H
               have H := H1
               clear H1
               have H' := Aside0.mk H
               clear H
               go_wp2
               repeat (go_quiet (fail); try go_wp2)
               go_roundg kj6
               case measure => have := HK1.out; have := HK2.out; have := HJ6.out; omega
               case rel => exact ⟨(x9_2), (wrap64 (x10_2 + 1)), (by first | rfl | (simp; done) | (simp [*]; done)), (by first | rfl | (simp; done) | (simp [*]; done)), H', ⟨by have := HK1.out; have := HK2.out; have := HJ6.out; omega⟩, ⟨by repeat (first | (with_reducible first | exact HB.out | apply below_alloc | apply pw_below_drewN | apply below_drew1) | exact HB.out)⟩⟩
         · rw [if_neg c6] at H
           have c6b0 : decide (x10_2 < (l0.length : Int)) = false := decide_eq_false c6
           clear c6
           have HC13 := Aside0.mk H
           clear H
           go_upto_region 14 with (fail)
           repeat (go_quiet (fail); go_upto_region 14 with (fail))
           go_cut [70] (fun v70 wc => ∃ (kq : Nat) (x70_12 : Bool), v70 = .bool x70_12 ∧ Aside0 (kimberliteref01_Depth.j3 kq l0 x6_1 x7_1 x8_1 x9_2 x70_12 = some (r1, r2, r3)) ∧ Aside0 (kq ≤ k2) ∧ Aside0 (Below w.heap.size w wc))
           case first =>
            have H := HC13.out
            clear HC13
            by_cases c14 : x9_2 > x6_1
            · rw [if_pos c14] at H
              have c14b0 : decide (x6_1 < x9_2) = true := decide_eq_true c14
              clear c14
              (first | rw [c14b0] | (simp only [i64_w, i32_w]; rw [c14b0]) | skip)
              have H' := Aside0.mk H
              clear H
              go_wp2
              repeat (go_quiet (fail); try go_wp2)
              go_meet
              case rel => exact ⟨_, (true), (by first | rfl | (simp; done) | (simp [*]; done)), H', ⟨by have := HK1.out; have := HK2.out; first | omega | exact Nat.le_refl _⟩, ⟨by repeat (first | (with_reducible first | exact HB.out | apply below_alloc | apply pw_below_drewN | apply below_drew1) | exact HB.out)⟩⟩
            · rw [if_neg c14] at H
              have c14b0 : decide (x6_1 < x9_2) = false := decide_eq_false c14
              clear c14
              (first | rw [c14b0] | (simp only [i64_w, i32_w]; rw [c14b0]) | skip)
              by_cases c15 : x9_2 = x6_1
              · rw [if_pos c15] at H
                have c15b0 : (x9_2 == x6_1) = true := beq_iff_eq.mpr c15
                have c15b1 : (x9_2 != x6_1) = false := bne_eq_false_iff_eq.mpr c15
                clear c15
                by_cases c16 : 0 ≤ x8_1
                · rw [if_pos c16] at H
                  have c16b0 : decide (0 ≤ x8_1) = true := decide_eq_true c16
                  clear c16
                  by_cases c17 : x8_1 < (l0.length : Int)
                  · rw [if_pos c17] at H
                    have c17b0 : decide (x8_1 < (l0.length : Int)) = true := decide_eq_true c17
                    clear c17
                    have H' := Aside0.mk H
                    clear H
                    have p335 : 0 ≤ (x8_1 : Int) := of_decide_eq_true (by first | (with_reducible assumption) | assumption)
                    have q335 : x8_1 < (l0.length : Int) := of_decide_eq_true (by first | (with_reducible assumption) | assumption)
                    obtain ⟨ad335, e335, hx335_0, hx335_1⟩ := at_T32 HR0.out x8_1 p335 q335
                    cases e335
                    replace hx335_0 := (HB.out.cell (World.block_lt_of_cell? w _ hx335_0)).trans hx335_0
                    replace hx335_1 := (HB.out.cell (World.block_lt_of_cell? w _ hx335_1)).trans hx335_1
                    replace p335 := eq_true p335
                    replace q335 := eq_true q335
                    go_wp2
                    repeat (go_quiet (fail); try go_wp2)
                    go_meet
                    case rel => exact ⟨_, (decide (((rd_T32 l0 x8_1).f0) < x7_1)), (by first | rfl | (simp; done) | (simp [*]; done)), H', ⟨by have := HK1.out; have := HK2.out; first | omega | exact Nat.le_refl _⟩, ⟨by repeat (first | (with_reducible first | exact HB.out | apply below_alloc | apply pw_below_drewN | apply below_drew1) | exact HB.out)⟩⟩
                  · rw [if_neg c17] at H
                    exact absurd H (by simp)
                · rw [if_neg c16] at H
                  exact absurd H (by simp)
              · rw [if_neg c15] at H
                have c15b0 : (x9_2 == x6_1) = false := beq_eq_false_iff_ne.mpr c15
                have c15b1 : (x9_2 != x6_1) = true := bne_iff_ne.mpr c15
                have H' := Aside0.mk H
                clear H
                go_wp2
                repeat (go_quiet (fail); try go_wp2)
                go_meet
                case rel => exact ⟨_, (false), (by first | rfl | (simp; done) | (simp [*]; done)), H', ⟨by have := HK1.out; have := HK2.out; first | omega | exact Nat.le_refl _⟩, ⟨by repeat (first | (with_reducible first | exact HB.out | apply below_alloc | apply pw_below_drewN | apply below_drew1) | exact HB.out)⟩⟩
           case rest =>
            clear HC13
            try clear c1
            try clear p2
            try clear c3
            try clear c3b0
            try clear c3b1
            try clear p3
            try clear q3
            try clear hx3
            try clear c4
            try clear c5
            try clear c5b0
            try clear c6
            try clear c6b0
            try clear p6
            try clear c8
            try clear c8b0
            try clear c9
            try clear c9b0
            try clear c10
            try clear c10b0
            try clear c11
            try clear c11b0
            try clear c12
            try clear c14
            try clear c14b0
            try clear c15
            try clear c15b0
            try clear c15b1
            try clear c16
            try clear c16b0
            try clear c17
            try clear c17b0
            try clear hx331_0
            try clear hx331_1
            try clear hx332_0
            try clear hx332_1
            try clear hx333_0
            try clear hx333_1
            try clear hx334_0
            try clear hx334_1
            try clear hx335_0
            try clear hx335_1
            try clear p2
            try clear p3
            try clear p331
            try clear p332
            try clear p333
            try clear p334
            try clear p335
            try clear q3
            try clear q331
            try clear q332
            try clear q333
            try clear q334
            try clear q335
            obtain ⟨kq, x70_12, rfl, HA, HJ12, HB⟩ := hcut
            cases kq with
            | zero => exact absurd HA.out (by simp [kimberliteref01_Depth.j3])
            | succ kj12 =>
             have H := HA.out
             clear HA
             simp only [kimberliteref01_Depth.j3] at H
             by_cases c18 : x70_12 = true
             · subst c18
               have H1 : (if 0 ≤ x8_1 then (if x8_1 < (l0.length : Int) then (kimberliteref01_Depth.l0 kj12 l0 x9_2 ((rd_T32 l0 x8_1).f0) (wrap64 (x8_1 + 1))) else (none)) else (none)) = some (r1, r2, r3) := by rw [if_pos rfl] at H; exact H
               clear H
               have H := H1
               clear H1
               by_cases c19 : 0 ≤ x8_1
               · rw [if_pos c19] at H
                 have c19b0 : decide (0 ≤ x8_1) = true := decide_eq_true c19
                 clear c19
                 by_cases c20 : x8_1 < (l0.length : Int)
                 · rw [if_pos c20] at H
                   have c20b0 : decide (x8_1 < (l0.length : Int)) = true := decide_eq_true c20
                   clear c20
                   have H' := Aside0.mk H
                   clear H
                   have p336 : 0 ≤ (x8_1 : Int) := of_decide_eq_true (by first | (with_reducible assumption) | assumption)
                   have q336 : x8_1 < (l0.length : Int) := of_decide_eq_true (by first | (with_reducible assumption) | assumption)
                   obtain ⟨ad336, e336, hx336_0, hx336_1⟩ := at_T32 HR0.out x8_1 p336 q336
                   cases e336
                   replace hx336_0 := (HB.out.cell (World.block_lt_of_cell? w _ hx336_0)).trans hx336_0
                   replace hx336_1 := (HB.out.cell (World.block_lt_of_cell? w _ hx336_1)).trans hx336_1
                   replace p336 := eq_true p336
                   replace q336 := eq_true q336
                   go_wp2
                   repeat (go_quiet (fail); try go_wp2)
                   go_roundg kj12
                   case measure => have := HK1.out; have := HK2.out; have := HJ12.out; omega
                   case rel => exact ⟨(x9_2), ((rd_T32 l0 x8_1).f0), (wrap64 (x8_1 + 1)), (by first | rfl | (simp; done) | (simp [*]; done)), (by first | rfl | (simp; done) | (simp [*]; done)), (by first | rfl | (simp; done) | (simp [*]; done)), H', ⟨by have := HK1.out; have := HK2.out; have := HJ12.out; omega⟩, ⟨by repeat (first | (with_reducible first | exact HB.out | apply below_alloc | apply pw_below_drewN | apply below_drew1) | exact HB.out)⟩⟩
                 · rw [if_neg c20] at H
                   exact absurd H (by simp)
               · rw [if_neg c19] at H
                 exact absurd H (by simp)
             · replace c18 := Bool.eq_false_iff.mpr c18
               subst c18
               have H1 : (kimberliteref01_Depth.l0 kj12 l0 x6_1 x7_1 (wrap64 (x8_1 + 1))) = some (r1, r2, r3) := by rw [if_neg (show ¬ (false = true) by decide)] at H; exact H
               clear H
               have H := H1
               clear H1
               have H' := Aside0.mk H
               clear H
               go_wp2
               repeat (go_quiet (fail); try go_wp2)
               go_roundg kj12
               case measure => have := HK1.out; have := HK2.out; have := HJ12.out; omega
               case rel => exact ⟨(x6_1), (x7_1), (wrap64 (x8_1 + 1)), (by first | rfl | (simp; done) | (simp [*]; done)), (by first | rfl | (simp; done) | (simp [*]; done)), (by first | rfl | (simp; done) | (simp [*]; done)), H', ⟨by have := HK1.out; have := HK2.out; have := HJ12.out; omega⟩, ⟨by repeat (first | (with_reducible first | exact HB.out | apply below_alloc | apply pw_below_drewN | apply below_drew1) | exact HB.out)⟩⟩
     · rw [if_neg c5] at H
       have c5b0 : decide (x8_1 < (l0.length : Int)) = false := decide_eq_false c5
       clear c5
       simp only [Option.some.injEq, Prod.mk.injEq] at H
       obtain ⟨rfl, rfl, rfl⟩ := H
       go_wp2
       repeat (go_quiet (fail); try go_wp2)
       go_ret3
       exact ⟨by first | rfl | (simp [errW_none, errW_some] <;> rfl) | (simp [*, errW_none, errW_some] <;> rfl), by repeat (first | (with_reducible first | exact HB.out | apply below_alloc | apply pw_below_drewN | apply below_drew1) | exact HB.out)⟩
 · rw [if_neg c3] at H
   have c3b0 : (t330 == 0) = false := beq_eq_false_iff_ne.mpr c3
   have c3b1 : (t330 != 0) = true := bne_iff_ne.mpr c3
   simp only [Option.some.injEq, Prod.mk.injEq] at H
   obtain ⟨rfl, rfl, rfl⟩ := H
   go_enter Try.func49, Try.ntmps49
   go_wp2_with (first | (go_at_call 62; (with_reducible refine (kimberliteref01_List.calls k _ _ l0 t330 _ ?side1 ?side2 A2.out).mono ?_); (case side1 => repeat (first | exact HR0.out | (with_reducible refine Kd.C_alloc ?_ _) | (with_reducible refine Kd.C_drewN ?_ _) | (with_reducible refine Kd.C_drew ?_))); (case side2 => exact HC0.out); rintro e w21 ⟨rfl, hb⟩; have n0_ := Aside0.mk (below_step (by repeat (first | (with_reducible first | exact HB.out | apply below_alloc | apply pw_below_drewN | apply below_drew1) | exact HB.out)) hb); clear HB; have HB := n0_; clear n0_; (try clear hb); (try clear hb2); (try clear hk); (try clear hi)))
   repeat (go_quiet (first | (go_at_call 62; (with_reducible refine (kimberliteref01_List.calls k _ _ l0 t330 _ ?side1 ?side2 A2.out).mono ?_); (case side1 => repeat (first | exact HR0.out | (with_reducible refine Kd.C_alloc ?_ _) | (with_reducible refine Kd.C_drewN ?_ _) | (with_reducible refine Kd.C_drew ?_))); (case side2 => exact HC0.out); rintro e w21 ⟨rfl, hb⟩; have n0_ := Aside0.mk (below_step (by repeat (first | (with_reducible first | exact HB.out | apply below_alloc | apply pw_below_drewN | apply below_drew1) | exact HB.out)) hb); clear HB; have HB := n0_; clear n0_; (try clear hb); (try clear hb2); (try clear hk); (try clear hi))); try go_wp2_with (first | (go_at_call 62; (with_reducible refine (kimberliteref01_List.calls k _ _ l0 t330 _ ?side1 ?side2 A2.out).mono ?_); (case side1 => repeat (first | exact HR0.out | (with_reducible refine Kd.C_alloc ?_ _) | (with_reducible refine Kd.C_drewN ?_ _) | (with_reducible refine Kd.C_drew ?_))); (case side2 => exact HC0.out); rintro e w21 ⟨rfl, hb⟩; have n0_ := Aside0.mk (below_step (by repeat (first | (with_reducible first | exact HB.out | apply below_alloc | apply pw_below_drewN | apply below_drew1) | exact HB.out)) hb); clear HB; have HB := n0_; clear n0_; (try clear hb); (try clear hb2); (try clear hk); (try clear hi))))
   go_ret3
   exact ⟨by first | rfl | (simp [errW_none, errW_some] <;> rfl) | (simp [*, errW_none, errW_some] <;> rfl), by repeat (first | (with_reducible first | exact HB.out | apply below_alloc | apply pw_below_drewN | apply below_drew1) | exact HB.out)⟩
end Go.Proofs.Ytningpmoojnomaa.Pr
end
section
namespace Go.Proofs.Ytningpmoojnomaa.Pr
open Go.RowKit Go.Proofs.YtningpmoojnomaaW.PrintWords Go.Proofs.YtningpmoojnomaaW.PrintLast Go.Proofs.YtningpmoojnomaaW.PrintMore
attribute [local go_sem] max2_int min2_int max_two min_two max_three min_three max_four min_four   -- for this text's walks alone
set_option linter.unusedVariables false
set_option linter.unusedSimpArgs false
mutual
def span_Depth.l0 : Nat → List (S32) → Int → Int → List (S32) → Int → Int → Option (Int × Int × Int)
 | 0, _, _, _, _, _, _ => none
 | k + 1, x0, x6, x7, x18, x19, x20 => if x20 < x19 then (if 0 ≤ x20 then (if x20 < (x18.length : Int) then (span_Depth.l1 k x0 x6 x7 0 x18 x19 x20 x0 (x0.length : Int) 0 ((rd_T32 x18 x20).f0) ((rd_T32 x18 x20).f1)) else (none)) else (none)) else (some (x6, x7, 0))
def span_Depth.l1 : Nat → List (S32) → Int → Int → Int → List (S32) → Int → Int → List (S32) → Int → Int → Int → Int → Option (Int × Int × Int)
 | 0, _, _, _, _, _, _, _, _, _, _, _, _ => none
 | k + 1, x0, x6, x7, x10, x18, x19, x20, x24, x25, x26, x372000, x372001 => if x26 < x25 then (if 0 ≤ x26 then (if x26 < (x24.length : Int) then (if ((rd_T32 x24 x26).f0) ≤ x372000 then (span_Depth.j2 k x0 x6 x7 x10 x18 x19 x20 x24 x25 x26 (decide (x372000 < ((rd_T32 x24 x26).f1))) x372000 x372001) else (span_Depth.j2 k x0 x6 x7 x10 x18 x19 x20 x24 x25 x26 false x372000 x372001)) else (none)) else (none)) else (if x10 > x6 then (span_Depth.j3 k x0 x6 x7 x10 x18 x19 x20 true x372000 x372001) else (if x10 = x6 then (span_Depth.j3 k x0 x6 x7 x10 x18 x19 x20 (decide (x372000 < x7)) x372000 x372001) else (span_Depth.j3 k x0 x6 x7 x10 x18 x19 x20 false x372000 x372001)))
def span_Depth.j2 : Nat → List (S32) → Int → Int → Int → List (S32) → Int → Int → List (S32) → Int → Int → Bool → Int → Int → Option (Int × Int × Int)
 | 0, _, _, _, _, _, _, _, _, _, _, _, _, _ => none
 | k + 1, x0, x6, x7, x10, x18, x19, x20, x24, x25, x26, x41, x372000, x372001 => if x41 = true then (span_Depth.l1 k x0 x6 x7 (wrap64 (x10 + 1)) x18 x19 x20 x24 x25 (wrap64 (x26 + 1)) x372000 x372001) else (span_Depth.l1 k x0 x6 x7 x10 x18 x19 x20 x24 x25 (wrap64 (x26 + 1)) x372000 x372001)
def span_Depth.j3 : Nat → List (S32) → Int → Int → Int → List (S32) → Int → Int → Bool → Int → Int → Option (Int × Int × Int)
 | 0, _, _, _, _, _, _, _, _, _, _ => none
 | k + 1, x0, x6, x7, x10, x18, x19, x20, x58, x372000, x372001 => if x58 = true then (span_Depth.l0 k x0 x10 x372000 x18 x19 (wrap64 (x20 + 1))) else (span_Depth.l0 k x0 x6 x7 x18 x19 (wrap64 (x20 + 1)))
end
def span_Depth.f (k : Nat) (l0 : List (S32)) : Option (Int × Int × Int) := (span_listed.f l0).bind fun t369 => (if t369 = 0 then (span_Depth.l0 k l0 0 0 l0 (l0.length : Int) 0) else (some (0, 0, t369)))
theorem span_Depth.mono_l : ∀ k, (∀ y0 y1 y2 y3 y4 y5, LeO (span_Depth.l0 k y0 y1 y2 y3 y4 y5) (span_Depth.l0 (k + 1) y0 y1 y2 y3 y4 y5)) ∧ (∀ y0 y1 y2 y3 y4 y5 y6 y7 y8 y9 y10 y11, LeO (span_Depth.l1 k y0 y1 y2 y3 y4 y5 y6 y7 y8 y9 y10 y11) (span_Depth.l1 (k + 1) y0 y1 y2 y3 y4 y5 y6 y7 y8 y9 y10 y11)) ∧ (∀ y0 y1 y2 y3 y4 y5 y6 y7 y8 y9 y10 y11 y12, LeO (span_Depth.j2 k y0 y1 y2 y3 y4 y5 y6 y7 y8 y9 y10 y11 y12) (span_Depth.j2 (k + 1) y0 y1 y2 y3 y4 y5 y6 y7 y8 y9 y10 y11 y12)) ∧ (∀ y0 y1 y2 y3 y4 y5 y6 y7 y8 y9, LeO (span_Depth.j3 k y0 y1 y2 y3 y4 y5 y6 y7 y8 y9) (span_Depth.j3 (k + 1) y0 y1 y2 y3 y4 y5 y6 y7 y8 y9))
 | 0 => ⟨fun _ _ _ _ _ _ r h => by simp [span_Depth.l0] at h, fun _ _ _ _ _ _ _ _ _ _ _ _ r h => by simp [span_Depth.l1] at h, fun _ _ _ _ _ _ _ _ _ _ _ _ _ r h => by simp [span_Depth.j2] at h, fun _ _ _ _ _ _ _ _ _ _ r h => by simp [span_Depth.j3] at h⟩
 | k + 1 => by
  obtain ⟨ih0, ih1, ih2, ih3⟩ := span_Depth.mono_l k
  refine ⟨?_, ?_, ?_, ?_⟩
  · intro y0 y1 y2 y3 y4 y5
    unfold span_Depth.l0
    repeat' first
    | (with_reducible exact ih0 _ _ _ _ _ _)
    | (with_reducible exact ih1 _ _ _ _ _ _ _ _ _ _ _ _)
    | (with_reducible exact ih2 _ _ _ _ _ _ _ _ _ _ _ _ _)
    | (with_reducible exact ih3 _ _ _ _ _ _ _ _ _ _)
    | (with_reducible exact LeO.refl _)
    | (with_reducible exact LeO.none _)
    | (with_reducible refine LeO.ite ?_ ?_)
    | (with_reducible refine LeO.bind ?_ (fun _ => ?_))
    | exact ih0 _ _ _ _ _ _
    | exact ih1 _ _ _ _ _ _ _ _ _ _ _ _
    | exact ih2 _ _ _ _ _ _ _ _ _ _ _ _ _
    | exact ih3 _ _ _ _ _ _ _ _ _ _
    | exact LeO.none _
    | refine LeO.ite ?_ ?_
    | refine LeO.bind ?_ (fun _ => ?_)
  · intro y0 y1 y2 y3 y4 y5 y6 y7 y8 y9 y10 y11
    unfold span_Depth.l1
    repeat' first
    | (with_reducible exact ih0 _ _ _ _ _ _)
    | (with_reducible exact ih1 _ _ _ _ _ _ _ _ _ _ _ _)
    | (with_reducible exact ih2 _ _ _ _ _ _ _ _ _ _ _ _ _)
    | (with_reducible exact ih3 _ _ _ _ _ _ _ _ _ _)
    | (with_reducible exact LeO.refl _)
    | (with_reducible exact LeO.none _)
    | (with_reducible refine LeO.ite ?_ ?_)
    | (with_reducible refine LeO.bind ?_ (fun _ => ?_))
    | exact ih0 _ _ _ _ _ _
    | exact ih1 _ _ _ _ _ _ _ _ _ _ _ _
    | exact ih2 _ _ _ _ _ _ _ _ _ _ _ _ _
    | exact ih3 _ _ _ _ _ _ _ _ _ _
    | exact LeO.none _
    | refine LeO.ite ?_ ?_
    | refine LeO.bind ?_ (fun _ => ?_)
  · intro y0 y1 y2 y3 y4 y5 y6 y7 y8 y9 y10 y11 y12
    unfold span_Depth.j2
    repeat' first
    | (with_reducible exact ih0 _ _ _ _ _ _)
    | (with_reducible exact ih1 _ _ _ _ _ _ _ _ _ _ _ _)
    | (with_reducible exact ih2 _ _ _ _ _ _ _ _ _ _ _ _ _)
    | (with_reducible exact ih3 _ _ _ _ _ _ _ _ _ _)
    | (with_reducible exact LeO.refl _)
    | (with_reducible exact LeO.none _)
    | (with_reducible refine LeO.ite ?_ ?_)
    | (with_reducible refine LeO.bind ?_ (fun _ => ?_))
    | exact ih0 _ _ _ _ _ _
    | exact ih1 _ _ _ _ _ _ _ _ _ _ _ _
    | exact ih2 _ _ _ _ _ _ _ _ _ _ _ _ _
    | exact ih3 _ _ _ _ _ _ _ _ _ _
    | exact LeO.none _
    | refine LeO.ite ?_ ?_
    | refine LeO.bind ?_ (fun _ => ?_)
  · intro y0 y1 y2 y3 y4 y5 y6 y7 y8 y9
    unfold span_Depth.j3
    repeat' first
    | (with_reducible exact ih0 _ _ _ _ _ _)
    | (with_reducible exact ih1 _ _ _ _ _ _ _ _ _ _ _ _)
    | (with_reducible exact ih2 _ _ _ _ _ _ _ _ _ _ _ _ _)
    | (with_reducible exact ih3 _ _ _ _ _ _ _ _ _ _)
    | (with_reducible exact LeO.refl _)
    | (with_reducible exact LeO.none _)
    | (with_reducible refine LeO.ite ?_ ?_)
    | (with_reducible refine LeO.bind ?_ (fun _ => ?_))
    | exact ih0 _ _ _ _ _ _
    | exact ih1 _ _ _ _ _ _ _ _ _ _ _ _
    | exact ih2 _ _ _ _ _ _ _ _ _ _ _ _ _
    | exact ih3 _ _ _ _ _ _ _ _ _ _
    | exact LeO.none _
    | refine LeO.ite ?_ ?_
    | refine LeO.bind ?_ (fun _ => ?_)
theorem span_Depth.mono : ∀ a0 k, LeO (span_Depth.f k a0) (span_Depth.f (k + 1) a0) := by
 intro a0 k
 obtain ⟨ih0, ih1, ih2, ih3⟩ := span_Depth.mono_l k
 unfold span_Depth.f
 repeat' first
  | (with_reducible exact ih0 _ _ _ _ _ _)
  | (with_reducible exact ih1 _ _ _ _ _ _ _ _ _ _ _ _)
  | (with_reducible exact ih2 _ _ _ _ _ _ _ _ _ _ _ _ _)
  | (with_reducible exact ih3 _ _ _ _ _ _ _ _ _ _)
  | (with_reducible exact LeO.refl _)
  | (with_reducible exact LeO.none _)
  | (with_reducible refine LeO.ite ?_ ?_)
  | (with_reducible refine LeO.bind ?_ (fun _ => ?_))
  | exact ih0 _ _ _ _ _ _
  | exact ih1 _ _ _ _ _ _ _ _ _ _ _ _
  | exact ih2 _ _ _ _ _ _ _ _ _ _ _ _ _
  | exact ih3 _ _ _ _ _ _ _ _ _ _
  | exact LeO.none _
  | refine LeO.ite ?_ ?_
  | refine LeO.bind ?_ (fun _ => ?_)
set_option maxHeartbeats 8000000 in
set_option maxRecDepth 100000 in
theorem span_Depth.calls (k : Nat) (A0 : Option Addr) (c0 : Nat) (l0 : List (S32)) (r1 : Int) (r2 : Int) (r3 : Int) (w : World) (hr0 : Kd.C k32 w A0 l0.length l0) (hc0 : l0.length ≤ c0) (h : span_Depth.f k l0 = some (r1, r2, r3)) :
 Calls Try.prog 46 #[.slice A0 l0.length c0] w fun e w' => e = .returned (.tuple #[.int .i64 r1, .int .i64 r2, .int .i64 r3]) ∧ Below w.heap.size w w' := by
 have hu32 := Try.underlying32
 have HR0 := Aside0.mk hr0
 have HC0 := Aside0.mk hc0
 clear hr0 hc0
 have HB := Aside0.mk (Below.refl w.heap.size w)
 have H : ((span_listed.f l0).bind fun t369 => (if t369 = 0 then (span_Depth.l0 k l0 0 0 l0 (l0.length : Int) 0) else (some (0, 0, t369)))) = some (r1, r2, r3) := h
 clear h
 replace H := Option.bind_eq_some_iff.mp H
 obtain ⟨t369, A20, H⟩ := H
 replace H : (if t369 = 0 then (span_Depth.l0 k l0 0 0 l0 (l0.length : Int) 0) else (some (0, 0, t369))) = some (r1, r2, r3) := H
 have A2 := Aside0.mk A20
 clear A20
 by_cases c3 : t369 = 0
 · rw [if_pos c3] at H
   have c3b0 : (t369 == 0) = true := beq_iff_eq.mpr c3
   have c3b1 : (t369 != 0) = false := bne_eq_false_iff_eq.mpr c3
   clear c3
   have H' := Aside0.mk H
   clear H
   go_enter Try.func46, Try.ntmps46
   go_wp2_with (first | (go_at_call 64; (with_reducible refine (span_listed.calls _ _ l0 t369 _ ?side1 ?side2 A2.out).mono ?_); (case side1 => repeat (first | exact HR0.out | (with_reducible refine Kd.C_alloc ?_ _) | (with_reducible refine Kd.C_drewN ?_ _) | (with_reducible refine Kd.C_drew ?_))); (case side2 => exact HC0.out); rintro e w4 ⟨rfl, hb⟩; have n0_ := Aside0.mk (below_step (by repeat (first | (with_reducible first | exact HB.out | apply below_alloc | apply pw_below_drewN | apply below_drew1) | exact HB.out)) hb); clear HB; have HB := n0_; clear n0_; (try clear hb); (try clear hb2); (try clear hk); (try clear hi)))
   repeat (go_quiet (first | (go_at_call 64; (with_reducible refine (span_listed.calls _ _ l0 t369 _ ?side1 ?side2 A2.out).mono ?_); (case side1 => repeat (first | exact HR0.out | (with_reducible refine Kd.C_alloc ?_ _) | (with_reducible refine Kd.C_drewN ?_ _) | (with_reducible refine Kd.C_drew ?_))); (case side2 => exact HC0.out); rintro e w4 ⟨rfl, hb⟩; have n0_ := Aside0.mk (below_step (by repeat (first | (with_reducible first | exact HB.out | apply below_alloc | apply pw_below_drewN | apply below_drew1) | exact HB.out)) hb); clear HB; have HB := n0_; clear n0_; (try clear hb); (try clear hb2); (try clear hk); (try clear hi))); try go_wp2_with (first | (go_at_call 64; (with_reducible refine (span_listed.calls _ _ l0 t369 _ ?side1 ?side2 A2.out).mono ?_); (case side1 => repeat (first | exact HR0.out | (with_reducible refine Kd.C_alloc ?_ _) | (with_reducible refine Kd.C_drewN ?_ _) | (with_reducible refine Kd.C_drew ?_))); (case side2 => exact HC0.out); rintro e w4 ⟨rfl, hb⟩; have n0_ := Aside0.mk (below_step (by repeat (first | (with_reducible first | exact HB.out | apply below_alloc | apply pw_below_drewN | apply below_drew1) | exact HB.out)) hb); clear HB; have HB := n0_; clear n0_; (try clear hb); (try clear hb2); (try clear hk); (try clear hi))))
   go_loopg [6, 7, 20] k (fun kq v6 v7 v20 w' => ∃ (x6_1 : Int) (x7_1 : Int) (x20_1 : Int), v6 = .int .i64 x6_1 ∧ v7 = .int .i64 x7_1 ∧ v20 = .int .i64 x20_1 ∧ Aside0 (span_Depth.l0 kq l0 x6_1 x7_1 l0 (l0.length : Int) x20_1 = some (r1, r2, r3)) ∧ Aside0 (kq ≤ k) ∧ Aside0 (Below w.heap.size w w'))
   case atStart => exact ⟨(0), (0), (0), (by first | rfl | (simp; done) | (simp [*]; done)), (by first | rfl | (simp; done) | (simp [*]; done)), (by first | rfl | (simp; done) | (simp [*]; done)), H', ⟨Nat.le_refl _⟩, ⟨by repeat (first | (with_reducible first | exact HB.out | apply below_alloc | apply pw_below_drewN | apply below_drew1) | exact HB.out)⟩⟩
   case round =>
    clear H'
    try clear p2
    try clear c3
    try clear c3b0
    try clear c3b1
    try clear c4
    obtain ⟨x6_1, x7_1, x20_1, rfl, rfl, rfl, HA, HK1, HB⟩ := hrel
    cases gk with
    | zero => exact absurd HA.out (by simp [span_Depth.l0])
    | succ k1 =>
     have H := HA.out
     clear HA
     simp only [span_Depth.l0] at H
     by_cases c5 : x20_1 < (l0.length : Int)
     · rw [if_pos c5] at H
       have c5b0 : decide (x20_1 < (l0.length : Int)) = true := decide_eq_true c5
       clear c5
       by_cases c6 : 0 ≤ x20_1
       · rw [if_pos c6] at H
         have c6b0 : decide (0 ≤ x20_1) = true := decide_eq_true c6
         clear c6
         by_cases c7 : x20_1 < (l0.length : Int)
         · rw [if_pos c7] at H
           have c7b0 : decide (x20_1 < (l0.length : Int)) = true := decide_eq_true c7
           clear c7
           have H' := Aside0.mk H
           clear H
           have p370 : 0 ≤ (x20_1 : Int) := of_decide_eq_true (by first | (with_reducible assumption) | assumption)
           have q370 : x20_1 < (l0.length : Int) := of_decide_eq_true (by first | (with_reducible assumption) | assumption)
           obtain ⟨ad370, e370, hx370_0, hx370_1⟩ := at_T32 HR0.out x20_1 p370 q370
           cases e370
           replace hx370_0 := (HB.out.cell (World.block_lt_of_cell? w _ hx370_0)).trans hx370_0
           replace hx370_1 := (HB.out.cell (World.block_lt_of_cell? w _ hx370_1)).trans hx370_1
           replace p370 := eq_true p370
           replace q370 := eq_true q370
           go_wp2_with (first | ((with_reducible refine gate_dst (N := 9) rfl ?_); refine box_event ?hg (N := 9) ?hd (cs := #[.int .i64 0, .int .i64 0]) (t := 32) ?hr ?_; (case hd => rfl); (case hg => rfl); (case hr => first | (go_simp; done) | (go_simp; rfl)); intro gb371 hg w8 hbox hb; have n0_ := Aside0.mk (below_step (by repeat (first | (with_reducible first | exact HB.out | apply below_alloc | apply pw_below_drewN | apply below_drew1) | exact HB.out)) hb); have n1_ := Aside0.mk (hbox); have n2_ := Aside0.mk ((by rw [hg]; exact (below_size (by repeat (first | (with_reducible first | exact HB.out | apply below_alloc | apply pw_below_drewN | apply below_drew1) | exact HB.out))) : w.heap.size ≤ gb371)); have n3_ := Aside0.mk ((by rw [hg]; exact (below_size (by repeat (first | (with_reducible first | exact HB.out | apply below_alloc | apply pw_below_drewN | apply below_drew1) | exact HB.out))) : w.heap.size ≤ gb371)); clear HB; have HB := n0_; have BK371 := n1_; have GW371 := n2_; have GE371 := n3_; clear n0_ n1_ n2_ n3_; clear hb hbox hg; have hcz9_0 : w8.cell? ⟨gb371, 0, none⟩ = some (.int .i64 0) := (blk_cell BK371.out 0).trans rfl; have hcz9_1 : w8.cell? ⟨gb371, 1, none⟩ = some (.int .i64 0) := (blk_cell BK371.out 1).trans rfl; have hfz9_0 := blk_frozen BK371.out 0; have hfz9_1 := blk_frozen BK371.out 1))
           repeat (go_quiet (fail); try go_wp2_with (first | ((with_reducible refine gate_dst (N := 9) rfl ?_); refine box_event ?hg (N := 9) ?hd (cs := #[.int .i64 0, .int .i64 0]) (t := 32) ?hr ?_; (case hd => rfl); (case hg => rfl); (case hr => first | (go_simp; done) | (go_simp; rfl)); intro gb371 hg w8 hbox hb; have n0_ := Aside0.mk (below_step (by repeat (first | (with_reducible first | exact HB.out | apply below_alloc | apply pw_below_drewN | apply below_drew1) | exact HB.out)) hb); have n1_ := Aside0.mk (hbox); have n2_ := Aside0.mk ((by rw [hg]; exact (below_size (by repeat (first | (with_reducible first | exact HB.out | apply below_alloc | apply pw_below_drewN | apply below_drew1) | exact HB.out))) : w.heap.size ≤ gb371)); have n3_ := Aside0.mk ((by rw [hg]; exact (below_size (by repeat (first | (with_reducible first | exact HB.out | apply below_alloc | apply pw_below_drewN | apply below_drew1) | exact HB.out))) : w.heap.size ≤ gb371)); clear HB; have HB := n0_; have BK371 := n1_; have GW371 := n2_; have GE371 := n3_; clear n0_ n1_ n2_ n3_; clear hb hbox hg; have hcz9_0 : w8.cell? ⟨gb371, 0, none⟩ = some (.int .i64 0) := (blk_cell BK371.out 0).trans rfl; have hcz9_1 : w8.cell? ⟨gb371, 1, none⟩ = some (.int .i64 0) := (blk_cell BK371.out 1).trans rfl; have hfz9_0 := blk_frozen BK371.out 0; have hfz9_1 := blk_frozen BK371.out 1)))
           go_loopg [10, 26] k1 (fun kq v10 v26 w' => ∃ (x10_2 : Int) (x26_2 : Int), v10 = .int .i64 x10_2 ∧ v26 = .int .i64 x26_2 ∧ Aside0 (span_Depth.l1 kq l0 x6_1 x7_1 x10_2 l0 (l0.length : Int) x20_1 l0 (l0.length : Int) x26_2 ((rd_T32 l0 x20_1).f0) ((rd_T32 l0 x20_1).f1) = some (r1, r2, r3)) ∧ Aside0 (kq ≤ k1) ∧ Aside0 (w'.heap[gb371]? = some (.cells #[.int .i64 ((rd_T32 l0 x20_1).f0), .int .i64 ((rd_T32 l0 x20_1).f1)] 32 (0, 0))) ∧ Aside0 (Below w.heap.size w w'))
           case atStart => exact ⟨(0), (0), (by first | rfl | (simp; done) | (simp [*]; done)), (by first | rfl | (simp; done) | (simp [*]; done)), H', ⟨Nat.le_refl _⟩, ⟨by (with_reducible repeat (first | refine blk_drewN ?_ _ | refine blk_drew ?_ | refine blk_alloc ?_ _)); refine blk_put (cs := #[.int .i64 ((rd_T32 l0 x20_1).f0), .int .i64 0]) ?_ 1 _ rfl; (with_reducible repeat (first | refine blk_drewN ?_ _ | refine blk_drew ?_ | refine blk_alloc ?_ _)); refine blk_put (cs := #[.int .i64 0, .int .i64 0]) ?_ 0 _ rfl; (with_reducible repeat (first | refine blk_drewN ?_ _ | refine blk_drew ?_ | refine blk_alloc ?_ _)); exact BK371.out⟩, ⟨by repeat (first | (with_reducible first | exact HB.out | apply below_alloc | apply pw_below_drewN | apply below_drew1 | refine below_set ?_ GE371.out) | exact HB.out)⟩⟩
           case round =>
            clear H'
            try clear p2
            try clear c3
            try clear c3b0
            try clear c3b1
            try clear p3
            try clear q3
            try clear hx3
            try clear c4
            try clear c5
            try clear c5b0
            try clear c6
            try clear c6b0
            try clear c7
            try clear c7b0
            try clear hcz9_0
            try clear hcz9_1
            try clear hfz9_0
            try clear hfz9_1
            try clear hx370_0
            try clear hx370_1
            try clear p2
            try clear p370
            try clear q370
            obtain ⟨x10_2, x26_2, rfl, rfl, HA, HK2, BK371, HB⟩ := hrel
            cases gk with
            | zero => exact absurd HA.out (by simp [span_Depth.l1])
            | succ k2 =>
             have H := HA.out
             clear HA
             simp only [span_Depth.l1] at H
             by_cases c10 : x26_2 < (l0.length : Int)
             · rw [if_pos c10] at H
               have c10b0 : decide (x26_2 < (l0.length : Int)) = true := decide_eq_true c10
               clear c10
               by_cases c11 : 0 ≤ x26_2
               · rw [if_pos c11] at H
                 have c11b0 : decide (0 ≤ x26_2) = true := decide_eq_true c11
                 clear c11
                 by_cases c12 : x26_2 < (l0.length : Int)
                 · rw [if_pos c12] at H
                   have c12b0 : decide (x26_2 < (l0.length : Int)) = true := decide_eq_true c12
                   clear c12
                   have HC13 := Aside0.mk H
                   clear H
                   have p372 : 0 ≤ (x26_2 : Int) := of_decide_eq_true (by first | (with_reducible assumption) | assumption)
                   have q372 : x26_2 < (l0.length : Int) := of_decide_eq_true (by first | (with_reducible assumption) | assumption)
                   obtain ⟨ad372, e372, hx372_0, hx372_1⟩ := at_T32 HR0.out x26_2 p372 q372
                   obtain rfl : ad370 = ad372 := (by injection e372)
                   replace hx372_0 := (HB.out.cell (World.block_lt_of_cell? w _ hx372_0)).trans hx372_0
                   replace hx372_1 := (HB.out.cell (World.block_lt_of_cell? w _ hx372_1)).trans hx372_1
                   replace p372 := eq_true p372
                   replace q372 := eq_true q372
                   go_upto_region 12 with (first | ((with_reducible refine gate_dst (N := 12) rfl ?_); refine box_event ?hg (N := 12) ?hd (cs := #[.int .i64 0, .int .i64 0]) (t := 32) ?hr ?_; (case hd => rfl); (case hg => rfl); (case hr => first | (go_simp; done) | (go_simp; rfl)); intro gb373 hg w14 hbox hb; have n0_ := Aside0.mk (blk_below (g := gb371) (o := .cells #[.int .i64 ((rd_T32 l0 x20_1).f0), .int .i64 ((rd_T32 l0 x20_1).f1)] 32 (0, 0)) (by (with_reducible repeat (first | refine blk_drewN ?_ _ | refine blk_drew ?_ | refine blk_alloc ?_ _)); exact BK371.out) hb); have n1_ := Aside0.mk (below_step (by repeat (first | (with_reducible first | exact HB.out | apply below_alloc | apply pw_below_drewN | apply below_drew1 | refine below_set ?_ GE371.out) | exact HB.out)) hb); have n2_ := Aside0.mk (hbox); have n3_ := Aside0.mk ((by rw [hg]; exact (below_size (by repeat (first | (with_reducible first | exact HB.out | apply below_alloc | apply pw_below_drewN | apply below_drew1 | refine below_set ?_ GE371.out) | exact HB.out))) : w.heap.size ≤ gb373)); have n4_ := Aside0.mk ((by rw [hg]; exact (below_size (by repeat (first | (with_reducible first | exact HB.out | apply below_alloc | apply pw_below_drewN | apply below_drew1 | refine below_set ?_ GE371.out) | exact HB.out))) : w.heap.size ≤ gb373)); have n5_ := Aside0.mk ((by rw [hg]; exact Nat.ne_of_lt (blk_lt (g := gb371) (o := .cells #[.int .i64 ((rd_T32 l0 x20_1).f0), .int .i64 ((rd_T32 l0 x20_1).f1)] 32 (0, 0)) (by (with_reducible repeat (first | refine blk_drewN ?_ _ | refine blk_drew ?_ | refine blk_alloc ?_ _)); exact BK371.out)) : gb371 ≠ gb373)); have n6_ := Aside0.mk ((by rw [hg]; exact Nat.ne_of_gt (blk_lt (g := gb371) (o := .cells #[.int .i64 ((rd_T32 l0 x20_1).f0), .int .i64 ((rd_T32 l0 x20_1).f1)] 32 (0, 0)) (by (with_reducible repeat (first | refine blk_drewN ?_ _ | refine blk_drew ?_ | refine blk_alloc ?_ _)); exact BK371.out)) : gb373 ≠ gb371)); clear BK371; clear HB; have BK371 := n0_; have HB := n1_; have BK373 := n2_; have GW373 := n3_; have GE373 := n4_; have NB371_373 := n5_; have NB373_371 := n6_; clear n0_ n1_ n2_ n3_ n4_ n5_ n6_; clear hb hbox hg; have hnb15 := NB373_371.out; have hnc15 := NB371_373.out; have hcz16_0 : w14.cell? ⟨gb373, 0, none⟩ = some (.int .i64 0) := (blk_cell BK373.out 0).trans rfl; have hcz16_1 : w14.cell? ⟨gb373, 1, none⟩ = some (.int .i64 0) := (blk_cell BK373.out 1).trans rfl; have hfz16_0 := blk_frozen BK373.out 0; have hfz16_1 := blk_frozen BK373.out 1))
                   repeat (go_quiet (fail); go_upto_region 12 with (first | ((with_reducible refine gate_dst (N := 12) rfl ?_); refine box_event ?hg (N := 12) ?hd (cs := #[.int .i64 0, .int .i64 0]) (t := 32) ?hr ?_; (case hd => rfl); (case hg => rfl); (case hr => first | (go_simp; done) | (go_simp; rfl)); intro gb373 hg w14 hbox hb; have n0_ := Aside0.mk (blk_below (g := gb371) (o := .cells #[.int .i64 ((rd_T32 l0 x20_1).f0), .int .i64 ((rd_T32 l0 x20_1).f1)] 32 (0, 0)) (by (with_reducible repeat (first | refine blk_drewN ?_ _ | refine blk_drew ?_ | refine blk_alloc ?_ _)); exact BK371.out) hb); have n1_ := Aside0.mk (below_step (by repeat (first | (with_reducible first | exact HB.out | apply below_alloc | apply pw_below_drewN | apply below_drew1 | refine below_set ?_ GE371.out) | exact HB.out)) hb); have n2_ := Aside0.mk (hbox); have n3_ := Aside0.mk ((by rw [hg]; exact (below_size (by repeat (first | (with_reducible first | exact HB.out | apply below_alloc | apply pw_below_drewN | apply below_drew1 | refine below_set ?_ GE371.out) | exact HB.out))) : w.heap.size ≤ gb373)); have n4_ := Aside0.mk ((by rw [hg]; exact (below_size (by repeat (first | (with_reducible first | exact HB.out | apply below_alloc | apply pw_below_drewN | apply below_drew1 | refine below_set ?_ GE371.out) | exact HB.out))) : w.heap.size ≤ gb373)); have n5_ := Aside0.mk ((by rw [hg]; exact Nat.ne_of_lt (blk_lt (g := gb371) (o := .cells #[.int .i64 ((rd_T32 l0 x20_1).f0), .int .i64 ((rd_T32 l0 x20_1).f1)] 32 (0, 0)) (by (with_reducible repeat (first | refine blk_drewN ?_ _ | refine blk_drew ?_ | refine blk_alloc ?_ _)); exact BK371.out)) : gb371 ≠ gb373)); have n6_ := Aside0.mk ((by rw [hg]; exact Nat.ne_of_gt (blk_lt (g := gb371) (o := .cells #[.int .i64 ((rd_T32 l0 x20_1).f0), .int .i64 ((rd_T32 l0 x20_1).f1)] 32 (0, 0)) (by (with_reducible repeat (first | refine blk_drewN ?_ _ | refine blk_drew ?_ | refine blk_alloc ?_ _)); exact BK371.out)) : gb373 ≠ gb371)); clear BK371; clear HB; have BK371 := n0_; have HB := n1_; have BK373 := n2_; have GW373 := n3_; have GE373 := n4_; have NB371_373 := n5_; have NB373_371 := n6_; clear n0_ n1_ n2_ n3_ n4_ n5_ n6_; clear hb hbox hg; have hnb15 := NB373_371.out; have hnc15 := NB371_373.out; have hcz16_0 : w14.cell? ⟨gb373, 0, none⟩ = some (.int .i64 0) := (blk_cell BK373.out 0).trans rfl; have hcz16_1 : w14.cell? ⟨gb373, 1, none⟩ = some (.int .i64 0) := (blk_cell BK373.out 1).trans rfl; have hfz16_0 := blk_frozen BK373.out 0; have hfz16_1 := blk_frozen BK373.out 1)))
                   (try simp only [Act.put, List.setIfInBounds_toArray, List.set_cons_zero, List.set_cons_succ])
                   go_cut [41] (fun v41 wc => ∃ (kq : Nat) (x41_12 : Bool), v41 = .bool x41_12 ∧ Aside0 (span_Depth.j2 kq l0 x6_1 x7_1 x10_2 l0 (l0.length : Int) x20_1 l0 (l0.length : Int) x26_2 x41_12 ((rd_T32 l0 x20_1).f0) ((rd_T32 l0 x20_1).f1) = some (r1, r2, r3)) ∧ Aside0 (kq ≤ k2) ∧ Aside0 (wc.heap[gb371]? = some (.cells #[.int .i64 ((rd_T32 l0 x20_1).f0), .int .i64 ((rd_T32 l0 x20_1).f1)] 32 (0, 0))) ∧ Aside0 (wc.heap[gb373]? = some (.cells #[.int .i64 ((rd_T32 l0 x26_2).f0), .int .i64 ((rd_T32 l0 x26_2).f1)] 32 (0, 0))) ∧ Aside0 (Below w.heap.size w wc))
                   case first =>
                    have H := HC13.out
                    clear HC13
                    by_cases c17 : ((rd_T32 l0 x26_2).f0) ≤ ((rd_T32 l0 x20_1).f0)
                    · rw [if_pos c17] at H
                      have c17b0 : decide (((rd_T32 l0 x26_2).f0) ≤ ((rd_T32 l0 x20_1).f0)) = true := decide_eq_true c17
                      clear c17
                      (first | rw [c17b0] | (simp only [i64_w, i32_w]; rw [c17b0]) | skip)
                      have H' := Aside0.mk H
                      clear H
                      have hnb18 := NB373_371.out
                      have hnc18 := NB371_373.out
                      have hcz19_0 : w14.cell? ⟨gb373, 0, none⟩ = some (.int .i64 0) := (blk_cell BK373.out 0).trans rfl
                      have hcz19_1 : w14.cell? ⟨gb373, 1, none⟩ = some (.int .i64 0) := (blk_cell BK373.out 1).trans rfl
                      have hfz19_0 := blk_frozen BK373.out 0
                      have hfz19_1 := blk_frozen BK373.out 1
                      have hcz20_0 : w14.cell? ⟨gb371, 0, none⟩ = some (.int .i64 ((rd_T32 l0 x20_1).f0)) := (blk_cell BK371.out 0).trans rfl
                      have hcz20_1 : w14.cell? ⟨gb371, 1, none⟩ = some (.int .i64 ((rd_T32 l0 x20_1).f1)) := (blk_cell BK371.out 1).trans rfl
                      have hfz20_0 := blk_frozen BK371.out 0
                      have hfz20_1 := blk_frozen BK371.out 1
                      go_wp2
                      repeat (go_quiet (fail); try go_wp2)
                      go_meet
                      case rel => exact ⟨_, (decide (((rd_T32 l0 x20_1).f0) < ((rd_T32 l0 x26_2).f1))), (by first | rfl | (simp; done) | (simp [*]; done)), H', ⟨by have := HK1.out; have := HK2.out; first | omega | exact Nat.le_refl _⟩, ⟨by (with_reducible repeat (first | refine blk_drewN ?_ _ | refine blk_drew ?_ | refine blk_alloc ?_ _)); refine blk_far ?_ NB371_373.out _; (with_reducible repeat (first | refine blk_drewN ?_ _ | refine blk_drew ?_ | refine blk_alloc ?_ _)); refine blk_far ?_ NB371_373.out _; (with_reducible repeat (first | refine blk_drewN ?_ _ | refine blk_drew ?_ | refine blk_alloc ?_ _)); exact BK371.out⟩, ⟨by (with_reducible repeat (first | refine blk_drewN ?_ _ | refine blk_drew ?_ | refine blk_alloc ?_ _)); refine blk_put (cs := #[.int .i64 ((rd_T32 l0 x26_2).f0), .int .i64 0]) ?_ 1 _ rfl; (with_reducible repeat (first | refine blk_drewN ?_ _ | refine blk_drew ?_ | refine blk_alloc ?_ _)); refine blk_put (cs := #[.int .i64 0, .int .i64 0]) ?_ 0 _ rfl; (with_reducible repeat (first | refine blk_drewN ?_ _ | refine blk_drew ?_ | refine blk_alloc ?_ _)); exact BK373.out⟩, ⟨by repeat (first | (with_reducible first | exact HB.out | apply below_alloc | apply pw_below_drewN | apply below_drew1 | refine below_set ?_ GE371.out | refine below_set ?_ GE373.out) | exact HB.out)⟩⟩
                    · rw [if_neg c17] at H
                      have c17b0 : decide (((rd_T32 l0 x26_2).f0) ≤ ((rd_T32 l0 x20_1).f0)) = false := decide_eq_false c17
                      clear c17
                      (first | rw [c17b0] | (simp only [i64_w, i32_w]; rw [c17b0]) | skip)
                      have H' := Aside0.mk H
                      clear H
                      have hnb21 := NB373_371.out
                      have hnc21 := NB371_373.out
                      have hcz22_0 : w14.cell? ⟨gb373, 0, none⟩ = some (.int .i64 0) := (blk_cell BK373.out 0).trans rfl
                      have hcz22_1 : w14.cell? ⟨gb373, 1, none⟩ = some (.int .i64 0) := (blk_cell BK373.out 1).trans rfl
                      have hfz22_0 := blk_frozen BK373.out 0
                      have hfz22_1 := blk_frozen BK373.out 1
                      have hcz23_0 : w14.cell? ⟨gb371, 0, none⟩ = some (.int .i64 ((rd_T32 l0 x20_1).f0)) := (blk_cell BK371.out 0).trans rfl
                      have hcz23_1 : w14.cell? ⟨gb371, 1, none⟩ = some (.int .i64 ((rd_T32 l0 x20_1).f1)) := (blk_cell BK371.out 1).trans rfl
                      have hfz23_0 := blk_frozen BK371.out 0
                      have hfz23_1 := blk_frozen BK371.out 1
                      go_wp2
                      repeat (go_quiet (fail); try go_wp2)
                      go_meet
                      case rel => exact ⟨_, (false), (by first | rfl | (simp; done) | (simp [*]; done)), H', ⟨by have := HK1.out; have := HK2.out; first | omega | exact Nat.le_refl _⟩, ⟨by (with_reducible repeat (first | refine blk_drewN ?_ _ | refine blk_drew ?_ | refine blk_alloc ?_ _)); refine blk_far ?_ NB371_373.out _; (with_reducible repeat (first | refine blk_drewN ?_ _ | refine blk_drew ?_ | refine blk_alloc ?_ _)); refine blk_far ?_ NB371_373.out _; (with_reducible repeat (first | refine blk_drewN ?_ _ | refine blk_drew ?_ | refine blk_alloc ?_ _)); exact BK371.out⟩, ⟨by (with_reducible repeat (first | refine blk_drewN ?_ _ | refine blk_drew ?_ | refine blk_alloc ?_ _)); refine blk_put (cs := #[.int .i64 ((rd_T32 l0 x26_2).f0), .int .i64 0]) ?_ 1 _ rfl; (with_reducible repeat (first | refine blk_drewN ?_ _ | refine blk_drew ?_ | refine blk_alloc ?_ _)); refine blk_put (cs := #[.int .i64 0, .int .i64 0]) ?_ 0 _ rfl; (with_reducible repeat (first | refine blk_drewN ?_ _ | refine blk_drew ?_ | refine blk_alloc ?_ _)); exact BK373.out⟩, ⟨by repeat (first | (with_reducible first | exact HB.out | apply below_alloc | apply pw_below_drewN | apply below_drew1 | refine below_set ?_ GE371.out | refine below_set ?_ GE373.out) | exact HB.out)⟩⟩
                   case rest =>
                    clear HC13
                    try clear c1
                    try clear c2
                    try clear p2
                    try clear c3
                    try clear c3b0
                    try clear c3b1
                    try clear p3
                    try clear q3
                    try clear hx3
                    try clear c4
                    try clear c5
                    try clear c5b0
                    try clear c6
                    try clear c6b0
                    try clear c7
                    try clear c7b0
                    try clear c10
                    try clear c10b0
                    try clear c11
                    try clear c11b0
                    try clear c12
                    try clear c12b0
                    try clear c15
                    try clear c17
                    try clear c17b0
                    try clear c18
                    try clear c21
                    try clear hcz16_0
                    try clear hcz16_1
                    try clear hcz19_0
                    try clear hcz19_1
                    try clear hcz20_0
                    try clear hcz20_1
                    try clear hcz22_0
                    try clear hcz22_1
                    try clear hcz23_0
                    try clear hcz23_1
                    try clear hcz9_0
                    try clear hcz9_1
                    try clear hfz16_0
                    try clear hfz16_1
                    try clear hfz19_0
                    try clear hfz19_1
                    try clear hfz20_0
                    try clear hfz20_1
                    try clear hfz22_0
                    try clear hfz22_1
                    try clear hfz23_0
                    try clear hfz23_1
                    try clear hfz9_0
                    try clear hfz9_1
                    try clear hx370_0
                    try clear hx370_1
                    try clear hx372_0
                    try clear hx372_1
                    try clear p2
                    try clear p3
                    try clear p370
                    try clear p372
                    try clear q3
                    try clear q370
                    try clear q372
                    obtain ⟨kq, x41_12, rfl, HA, HJ12, BK371, BK373, HB⟩ := hcut
                    cases kq with
                    | zero => exact absurd HA.out (by simp [span_Depth.j2])
                    | succ kj12 =>
                     have H := HA.out
                     clear HA
                     simp only [span_Depth.j2] at H
                     by_cases c24 : x41_12 = true
                     · subst c24
                       have H1 : (span_Depth.l1 kj12 l0 x6_1 x7_1 (wrap64 (x10_2 + 1)) l0 (l0.length : Int) x20_1 l0 (l0.length : Int) (wrap64 (x26_2 + 1)) ((rd_T32 l0 x20_1).f0) ((rd_T32 l0 x20_1).f1)) = some (r1, r2, r3) := by rw [if_pos rfl] at H; exact H
                       clear H
                       have H := H1
                       clear H1
                       have H' := Aside0.mk H
                       clear H
                       go_wp2
                       repeat (go_quiet (fail); try go_wp2)
                       go_roundg kj12
                       case measure => have := HK1.out; have := HK2.out; have := HJ12.out; omega
                       case rel => exact ⟨(wrap64 (x10_2 + 1)), (wrap64 (x26_2 + 1)), (by first | rfl | (simp; done) | (simp [*]; done)), (by first | rfl | (simp; done) | (simp [*]; done)), H', ⟨by have := HK1.out; have := HK2.out; have := HJ12.out; omega⟩, ⟨by (with_reducible repeat (first | refine blk_drewN ?_ _ | refine blk_drew ?_ | refine blk_alloc ?_ _)); exact BK371.out⟩, ⟨by repeat (first | (with_reducible first | exact HB.out | apply below_alloc | apply pw_below_drewN | apply below_drew1 | refine below_set ?_ GE371.out | refine below_set ?_ GE373.out) | exact HB.out)⟩⟩
                     · replace c24 := Bool.eq_false_iff.mpr c24
                       subst c24
                       have H1 : (span_Depth.l1 kj12 l0 x6_1 x7_1 x10_2 l0 (l0.length : Int) x20_1 l0 (l0.length : Int) (wrap64 (x26_2 + 1)) ((rd_T32 l0 x20_1).f0) ((rd_T32 l0 x20_1).f1)) = some (r1, r2, r3) := by rw [if_neg (show ¬ (false = true) by decide)] at H; exact H
                       clear H
                       have H := H1
                       clear H1
                       have H' := Aside0.mk H
                       clear H
                       go_wp2
                       repeat (go_quiet (fail); try go_wp2)
                       go_roundg kj12
                       case measure => have := HK1.out; have := HK2.out; have := HJ12.out; omega
                       case rel => exact ⟨(x10_2), (wrap64 (x26_2 + 1)), (by first | rfl | (simp; done) | (simp [*]; done)), (by first | rfl | (simp; done) | (simp [*]; done)), H', ⟨by have := HK1.out; have := HK2.out; have := HJ12.out; omega⟩, ⟨by (with_reducible repeat (first | refine blk_drewN ?_ _ | refine blk_drew ?_ | refine blk_alloc ?_ _)); exact BK371.out⟩, ⟨by repeat (first | (with_reducible first | exact HB.out | apply below_alloc | apply pw_below_drewN | apply below_drew1 | refine below_set ?_ GE371.out | refine below_set ?_ GE373.out) | exact HB.out)⟩⟩
                 · rw [if_neg c12] at H
                   exact absurd H (by simp)
               · rw [if_neg c11] at H
                 exact absurd H (by simp)
             · rw [if_neg c10] at H
               have c10b0 : decide (x26_2 < (l0.length : Int)) = false := decide_eq_false c10
               clear c10
               have HC25 := Aside0.mk H
               clear H
               go_upto_region 15 with (fail)
               repeat (go_quiet (fail); go_upto_region 15 with (fail))
               go_cut [58] (fun v58 wc => ∃ (kq : Nat) (x58_24 : Bool), v58 = .bool x58_24 ∧ Aside0 (span_Depth.j3 kq l0 x6_1 x7_1 x10_2 l0 (l0.length : Int) x20_1 x58_24 ((rd_T32 l0 x20_1).f0) ((rd_T32 l0 x20_1).f1) = some (r1, r2, r3)) ∧ Aside0 (kq ≤ k2) ∧ Aside0 (wc.heap[gb371]? = some (.cells #[.int .i64 ((rd_T32 l0 x20_1).f0), .int .i64 ((rd_T32 l0 x20_1).f1)] 32 (0, 0))) ∧ Aside0 (Below w.heap.size w wc))
               case first =>
                have H := HC25.out
                clear HC25
                by_cases c26 : x10_2 > x6_1
                · rw [if_pos c26] at H
                  have c26b0 : decide (x6_1 < x10_2) = true := decide_eq_true c26
                  clear c26
                  (first | rw [c26b0] | (simp only [i64_w, i32_w]; rw [c26b0]) | skip)
                  have H' := Aside0.mk H
                  clear H
                  go_wp2
                  repeat (go_quiet (fail); try go_wp2)
                  go_meet
                  case rel => exact ⟨_, (true), (by first | rfl | (simp; done) | (simp [*]; done)), H', ⟨by have := HK1.out; have := HK2.out; first | omega | exact Nat.le_refl _⟩, ⟨by (with_reducible repeat (first | refine blk_drewN ?_ _ | refine blk_drew ?_ | refine blk_alloc ?_ _)); exact BK371.out⟩, ⟨by repeat (first | (with_reducible first | exact HB.out | apply below_alloc | apply pw_below_drewN | apply below_drew1 | refine below_set ?_ GE371.out) | exact HB.out)⟩⟩
                · rw [if_neg c26] at H
                  have c26b0 : decide (x6_1 < x10_2) = false := decide_eq_false c26
                  clear c26
                  (first | rw [c26b0] | (simp only [i64_w, i32_w]; rw [c26b0]) | skip)
                  by_cases c27 : x10_2 = x6_1
                  · rw [if_pos c27] at H
                    have c27b0 : (x10_2 == x6_1) = true := beq_iff_eq.mpr c27
                    have c27b1 : (x10_2 != x6_1) = false := bne_eq_false_iff_eq.mpr c27
                    clear c27
                    have H' := Aside0.mk H
                    clear H
                    have hcz28_0 : wr.cell? ⟨gb371, 0, none⟩ = some (.int .i64 ((rd_T32 l0 x20_1).f0)) := (blk_cell BK371.out 0).trans rfl
                    have hcz28_1 : wr.cell? ⟨gb371, 1, none⟩ = some (.int .i64 ((rd_T32 l0 x20_1).f1)) := (blk_cell BK371.out 1).trans rfl
                    have hfz28_0 := blk_frozen BK371.out 0
                    have hfz28_1 := blk_frozen BK371.out 1
                    go_wp2
                    repeat (go_quiet (fail); try go_wp2)
                    go_meet
                    case rel => exact ⟨_, (decide (((rd_T32 l0 x20_1).f0) < x7_1)), (by first | rfl | (simp; done) | (simp [*]; done)), H', ⟨by have := HK1.out; have := HK2.out; first | omega | exact Nat.le_refl _⟩, ⟨by (with_reducible repeat (first | refine blk_drewN ?_ _ | refine blk_drew ?_ | refine blk_alloc ?_ _)); exact BK371.out⟩, ⟨by repeat (first | (with_reducible first | exact HB.out | apply below_alloc | apply pw_below_drewN | apply below_drew1 | refine below_set ?_ GE371.out) | exact HB.out)⟩⟩
                  · rw [if_neg c27] at H
                    have c27b0 : (x10_2 == x6_1) = false := beq_eq_false_iff_ne.mpr c27
                    have c27b1 : (x10_2 != x6_1) = true := bne_iff_ne.mpr c27
                    have H' := Aside0.mk H
                    clear H
                    go_wp2
                    repeat (go_quiet (fail); try go_wp2)
                    go_meet
                    case rel => exact ⟨_, (false), (by first | rfl | (simp; done) | (simp [*]; done)), H', ⟨by have := HK1.out; have := HK2.out; first | omega | exact Nat.le_refl _⟩, ⟨by (with_reducible repeat (first | refine blk_drewN ?_ _ | refine blk_drew ?_ | refine blk_alloc ?_ _)); exact BK371.out⟩, ⟨by repeat (first | (with_reducible first | exact HB.out | apply below_alloc | apply pw_below_drewN | apply below_drew1 | refine below_set ?_ GE371.out) | exact HB.out)⟩⟩
               case rest =>
                clear HC25
                try clear c1
                try clear c2
                try clear p2
                try clear c3
                try clear c3b0
                try clear c3b1
                try clear p3
                try clear q3
                try clear hx3
                try clear c4
                try clear c5
                try clear c5b0
                try clear c6
                try clear c6b0
                try clear p6
                try clear c7
                try clear c7b0
                try clear c10
                try clear c10b0
                try clear c11
                try clear c11b0
                try clear c12
                try clear c12b0
                try clear c15
                try clear c17
                try clear c17b0
                try clear c18
                try clear c21
                try clear c24
                try clear c26
                try clear c26b0
                try clear c27
                try clear c27b0
                try clear c27b1
                try clear hcz16_0
                try clear hcz16_1
                try clear hcz19_0
                try clear hcz19_1
                try clear hcz20_0
                try clear hcz20_1
                try clear hcz22_0
                try clear hcz22_1
                try clear hcz23_0
                try clear hcz23_1
                try clear hcz28_0
                try clear hcz28_1
                try clear hcz9_0
                try clear hcz9_1
                try clear hfz16_0
                try clear hfz16_1
                try clear hfz19_0
                try clear hfz19_1
                try clear hfz20_0
                try clear hfz20_1
                try clear hfz22_0
                try clear hfz22_1
                try clear hfz23_0
                try clear hfz23_1
                try clear hfz28_0
                try clear hfz28_1
                try clear hfz9_0
                try clear hfz9_1
                try clear hx370_0
                try clear hx370_1
                try clear hx372_0
                try clear hx372_1
                try clear p2
                try clear p3
                try clear p370
                try clear p372
                try clear q3
                try clear q370
                try clear q372
                obtain ⟨kq, x58_24, rfl, HA, HJ24, BK371, HB⟩ := hcut
                cases kq with
                | zero => exact absurd HA.out (by simp [span_Depth.j3])
                | succ kj24 =>
                 have H := HA.out
                 clear HA
                 simp only [span_Depth.j3] at H
                 by_cases c29 : x58_24 = true
                 · subst c29
                   have H1 : (span_Depth.l0 kj24 l0 x10_2 ((rd_T32 l0 x20_1).f0) l0 (l0.length : Int) (wrap64 (x20_1 + 1))) = some (r1, r2, r3) := by rw [if_pos rfl] at H; exact H
                   clear H
                   have H := H1
                   clear H1
                   have H' := Aside0.mk H
                   clear H
                   have hcz30_0 : wc.cell? ⟨gb371, 0, none⟩ = some (.int .i64 ((rd_T32 l0 x20_1).f0)) := (blk_cell BK371.out 0).trans rfl
                   have hcz30_1 : wc.cell? ⟨gb371, 1, none⟩ = some (.int .i64 ((rd_T32 l0 x20_1).f1)) := (blk_cell BK371.out 1).trans rfl
                   have hfz30_0 := blk_frozen BK371.out 0
                   have hfz30_1 := blk_frozen BK371.out 1
                   go_wp2
                   repeat (go_quiet (fail); try go_wp2)
                   go_roundg kj24
                   case measure => have := HK1.out; have := HK2.out; have := HJ24.out; omega
                   case rel => exact ⟨(x10_2), (((rd_T32 l0 x20_1).f0)), (wrap64 (x20_1 + 1)), (by first | rfl | (simp; done) | (simp [*]; done)), (by first | rfl | (simp; done) | (simp [*]; done)), (by first | rfl | (simp; done) | (simp [*]; done)), H', ⟨by have := HK1.out; have := HK2.out; have := HJ24.out; omega⟩, ⟨by repeat (first | (with_reducible first | exact HB.out | apply below_alloc | apply pw_below_drewN | apply below_drew1 | refine below_set ?_ GE371.out) | exact HB.out)⟩⟩
                 · replace c29 := Bool.eq_false_iff.mpr c29
                   subst c29
                   have H1 : (span_Depth.l0 kj24 l0 x6_1 x7_1 l0 (l0.length : Int) (wrap64 (x20_1 + 1))) = some (r1, r2, r3) := by rw [if_neg (show ¬ (false = true) by decide)] at H; exact H
                   clear H
                   have H := H1
                   clear H1
                   have H' := Aside0.mk H
                   clear H
                   go_wp2
                   repeat (go_quiet (fail); try go_wp2)
                   go_roundg kj24
                   case measure => have := HK1.out; have := HK2.out; have := HJ24.out; omega
                   case rel => exact ⟨(x6_1), (x7_1), (wrap64 (x20_1 + 1)), (by first | rfl | (simp; done) | (simp [*]; done)), (by first | rfl | (simp; done) | (simp [*]; done)), (by first | rfl | (simp; done) | (simp [*]; done)), H', ⟨by have := HK1.out; have := HK2.out; have := HJ24.out; omega⟩, ⟨by repeat (first | (with_reducible first | exact HB.out | apply below_alloc | apply pw_below_drewN | apply below_drew1 | refine below_set ?_ GE371.out) | exact HB.out)⟩⟩
         · rw [if_neg c7] at H
           exact absurd H (by simp)
       · rw [if_neg c6] at H
         exact absurd H (by simp)
     · rw [if_neg c5] at H
       have c5b0 : decide (x20_1 < (l0.length : Int)) = false := decide_eq_false c5
       clear c5
       simp only [Option.some.injEq, Prod.mk.injEq] at H
       obtain ⟨rfl, rfl, rfl⟩ := H
       go_wp2
       repeat (go_quiet (fail); try go_wp2)
       go_ret3
       exact ⟨by first | rfl | (simp [errW_none, errW_some] <;> rfl) | (simp [*, errW_none, errW_some] <;> rfl), by repeat (first | (with_reducible first | exact HB.out | apply below_alloc | apply pw_below_drewN | apply below_drew1) | exact HB.out)⟩
 · rw [if_neg c3] at H
   have c3b0 : (t369 == 0) = false := beq_eq_false_iff_ne.mpr c3
   have c3b1 : (t369 != 0) = true := bne_iff_ne.mpr c3
   simp only [Option.some.injEq, Prod.mk.injEq] at H
   obtain ⟨rfl, rfl, rfl⟩ := H
   go_enter Try.func46, Try.ntmps46
   go_wp2_with (first | (go_at_call 64; (with_reducible refine (span_listed.calls _ _ l0 t369 _ ?side1 ?side2 A2.out).mono ?_); (case side1 => repeat (first | exact HR0.out | (with_reducible refine Kd.C_alloc ?_ _) | (with_reducible refine Kd.C_drewN ?_ _) | (with_reducible refine Kd.C_drew ?_))); (case side2 => exact HC0.out); rintro e w31 ⟨rfl, hb⟩; have n0_ := Aside0.mk (below_step (by repeat (first | (with_reducible first | exact HB.out | apply below_alloc | apply pw_below_drewN | apply below_drew1) | exact HB.out)) hb); clear HB; have HB := n0_; clear n0_; (try clear hb); (try clear hb2); (try clear hk); (try clear hi)))
   repeat (go_quiet (first | (go_at_call 64; (with_reducible refine (span_listed.calls _ _ l0 t369 _ ?side1 ?side2 A2.out).mono ?_); (case side1 => repeat (first | exact HR0.out | (with_reducible refine Kd.C_alloc ?_ _) | (with_reducible refine Kd.C_drewN ?_ _) | (with_reducible refine Kd.C_drew ?_))); (case side2 => exact HC0.out); rintro e w31 ⟨rfl, hb⟩; have n0_ := Aside0.mk (below_step (by repeat (first | (with_reducible first | exact HB.out | apply below_alloc | apply pw_below_drewN | apply below_drew1) | exact HB.out)) hb); clear HB; have HB := n0_; clear n0_; (try clear hb); (try clear hb2); (try clear hk); (try clear hi))); try go_wp2_with (first | (go_at_call 64; (with_reducible refine (span_listed.calls _ _ l0 t369 _ ?side1 ?side2 A2.out).mono ?_); (case side1 => repeat (first | exact HR0.out | (with_reducible refine Kd.C_alloc ?_ _) | (with_reducible refine Kd.C_drewN ?_ _) | (with_reducible refine Kd.C_drew ?_))); (case side2 => exact HC0.out); rintro e w31 ⟨rfl, hb⟩; have n0_ := Aside0.mk (below_step (by repeat (first | (with_reducible first | exact HB.out | apply below_alloc | apply pw_below_drewN | apply below_drew1) | exact HB.out)) hb); clear HB; have HB := n0_; clear n0_; (try clear hb); (try clear hb2); (try clear hk); (try clear hi))))
   go_ret3
   exact ⟨by first | rfl | (simp [errW_none, errW_some] <;> rfl) | (simp [*, errW_none, errW_some] <;> rfl), by repeat (first | (with_reducible first | exact HB.out | apply below_alloc | apply pw_below_drewN | apply below_drew1) | exact HB.out)⟩
end Go.Proofs.Ytningpmoojnomaa.Pr
end
section
namespace Go.Proofs.Ytningpmoojnomaa.Pr
open Go.RowKit Go.Proofs.YtningpmoojnomaaW.PrintWords Go.Proofs.YtningpmoojnomaaW.PrintLast Go.Proofs.YtningpmoojnomaaW.PrintMore
set_option linter.unusedVariables false
set_option linter.unusedSimpArgs false
def cntS (l : List S32) (x : Int) : Nat := l.countP (hasS x)
def depS (l : List S32) (st : Int × Int) (s : S32) : Int × Int := if (cntS l s.f0 : Int) > st.1 ∨ ((cntS l s.f0 : Int) = st.1 ∧ s.f0 < st.2) then ((cntS l s.f0 : Int), s.f0) else st
def depF (l m : List S32) (st : Int × Int) : Int × Int := m.foldl (depS l) st
def depR (l : List S32) : Int × Int × Int := if listR l = 0 then ((depF l l (0, 0)).1, (depF l l (0, 0)).2, 0) else (0, 0, listR l)
theorem cntS_le (l : List S32) (x : Int) : cntS l x ≤ l.length := List.countP_le_length
theorem span_dep_l1 (l : List S32) (hl : l.length ≤ 1000) (x6 x7 : Int) (i : Nat) (s : S32) (r : Int × Int × Int)
    (K : Ev (fun k => span_Depth.j3 k l x6 x7 (cntS l s.f0 : Int) l (l.length : Int) (i : Int) (decide ((cntS l s.f0 : Int) > x6 ∨ ((cntS l s.f0 : Int) = x6 ∧ s.f0 < x7))) s.f0 s.f1) r) :
    ∀ (d q n : Nat), l.length - q = d → n + (l.drop q).countP (hasS s.f0) = cntS l s.f0 → Ev (fun k => span_Depth.l1 k l x6 x7 (n : Int) l (l.length : Int) (i : Int) l (l.length : Int) (q : Int) s.f0 s.f1) r
  | 0, q, n, h, hn => by
    rw [List.drop_eq_nil_of_le (by omega), List.countP_nil, Nat.add_zero] at hn
    subst hn
    refine Ev.step (fun k => ?_) K
    simp only [span_Depth.l1]
    rw [if_neg (by omega)]
    by_cases c1 : (cntS l s.f0 : Int) > x6
    · rw [if_pos c1, decide_eq_true (.inl c1)]
    · rw [if_neg c1]
      by_cases c2 : (cntS l s.f0 : Int) = x6
      · rw [if_pos c2]
        congr 1
        exact decide_eq_decide.2 ⟨fun h => .inr ⟨c2, h⟩, fun h => h.elim (fun h => absurd h c1) (fun h => h.2)⟩
      · rw [if_neg c2, decide_eq_false (fun h => h.elim c1 (fun h => c2 h.1))]
  | d + 1, q, n, h, hn => by
    have hq : q < l.length := by omega
    have hnl := cntS_le l s.f0
    rw [drop_cons l q hq, List.countP_cons] at hn
    refine Ev.step (f := fun k => span_Depth.j2 k l x6 x7 (n : Int) l (l.length : Int) (i : Int) l (l.length : Int) (q : Int) (hasS s.f0 (l.getD q z32)) s.f0 s.f1) (fun k => ?_) ?_
    · simp only [span_Depth.l1]
      rw [if_pos (by omega), if_pos (by omega), if_pos (by omega), rd_nat]
      unfold hasS
      by_cases c : (l.getD q z32).f0 ≤ s.f0
      · rw [if_pos c, decide_eq_true c, Bool.true_and]
      · rw [if_neg c, decide_eq_false c, Bool.false_and]
    · cases hs : hasS s.f0 (l.getD q z32) with
      | true =>
        rw [hs, if_pos rfl] at hn
        have ih := span_dep_l1 l hl x6 x7 i s r K d (q + 1) (n + 1) (by omega) (by omega)
        refine Ev.step (fun k => ?_) ih
        simp only [span_Depth.j2]
        rw [if_pos trivial, wrap_succ hq (by omega), wrap_succ (i := n) (n := 2000) (by omega) (by omega)]
      | false =>
        rw [hs] at hn
        have ih := span_dep_l1 l hl x6 x7 i s r K d (q + 1) n (by omega) (by simpa using hn)
        refine Ev.step (fun k => ?_) ih
        simp only [span_Depth.j2]
        rw [if_neg (by simp), wrap_succ hq (by omega)]
theorem span_dep_l0 (l : List S32) (hl : l.length ≤ 1000) : ∀ (d i : Nat) (st : Int × Int), l.length - i = d → Ev (fun k => span_Depth.l0 k l st.1 st.2 l (l.length : Int) (i : Int)) ((depF l (l.drop i) st).1, (depF l (l.drop i) st).2, 0)
  | 0, i, st, h => by
    rw [List.drop_eq_nil_of_le (by omega)]
    exact Ev.step (f := fun _ => some (st.1, st.2, 0)) (fun k => by simp only [span_Depth.l0]; rw [if_neg (by omega)]) (Ev.now _)
  | d + 1, i, st, h => by
    have hi : i < l.length := by omega
    rw [drop_cons l i hi]
    have ih := span_dep_l0 l hl d (i + 1) (depS l st (l.getD i z32)) (by omega)
    refine Ev.step (f := fun k => span_Depth.l1 k l st.1 st.2 ((0 : Nat) : Int) l (l.length : Int) (i : Int) l (l.length : Int) ((0 : Nat) : Int) (l.getD i z32).f0 (l.getD i z32).f1) (fun k => by simp only [span_Depth.l0]; rw [if_pos (by omega), if_pos (by omega), if_pos (by omega), rd_nat]; rfl) ?_
    refine span_dep_l1 l hl st.1 st.2 i (l.getD i z32) _ ?_ _ 0 0 rfl (by simp [cntS])
    refine Ev.step (fun k => ?_) ih
    simp only [span_Depth.j3]
    unfold depS
    by_cases c : (cntS l (l.getD i z32).f0 : Int) > st.1 ∨ ((cntS l (l.getD i z32).f0 : Int) = st.1 ∧ (l.getD i z32).f0 < st.2)
    · rw [if_pos (decide_eq_true c), if_pos c, wrap_succ hi (by omega)]
    · rw [if_neg (by simpa using c), if_neg c, wrap_succ hi (by omega)]
theorem spanDepth_ev (l : List S32) : Ev (fun k => span_Depth.f k l) (depR l) := by
  unfold span_Depth.f depR
  rw [listed_f]
  simp only [Option.bind_some]
  by_cases h : listR l = 0
  · have := (listR_good h).1
    simp only [if_pos h]
    simpa using span_dep_l0 l (by omega) _ 0 (0, 0) rfl
  · simp only [if_neg h]
    exact Ev.now _
theorem ref_dep_l1 (l : List S32) (hl : l.length ≤ 1000) (x6 x7 : Int) (i : Nat) (hi : i < l.length) (r : Int × Int × Int)
    (K : Ev (fun k => kimberliteref01_Depth.j3 k l x6 x7 (i : Int) (cntS l (l.getD i z32).f0 : Int) (decide ((cntS l (l.getD i z32).f0 : Int) > x6 ∨ ((cntS l (l.getD i z32).f0 : Int) = x6 ∧ (l.getD i z32).f0 < x7)))) r) :
    ∀ (d q n : Nat), l.length - q = d → n + (l.drop q).countP (hasS (l.getD i z32).f0) = cntS l (l.getD i z32).f0 → Ev (fun k => kimberliteref01_Depth.l1 k l x6 x7 (i : Int) (n : Int) (q : Int)) r
  | 0, q, n, h, hn => by
    rw [List.drop_eq_nil_of_le (by omega), List.countP_nil, Nat.add_zero] at hn
    subst hn
    refine Ev.step (fun k => ?_) K
    simp only [kimberliteref01_Depth.l1]
    rw [if_neg (by omega)]
    by_cases c1 : (cntS l (l.getD i z32).f0 : Int) > x6
    · rw [if_pos c1, decide_eq_true (.inl c1)]
    · rw [if_neg c1]
      by_cases c2 : (cntS l (l.getD i z32).f0 : Int) = x6
      · rw [if_pos c2, if_pos (by omega), if_pos (by omega), rd_nat]
        congr 1
        exact decide_eq_decide.2 ⟨fun h => .inr ⟨c2, h⟩, fun h => h.elim (fun h => absurd h c1) (fun h => h.2)⟩
      · rw [if_neg c2, decide_eq_false (fun h => h.elim c1 (fun h => c2 h.1))]
  | d + 1, q, n, h, hn => by
    have hq : q < l.length := by omega
    have hnl := cntS_le l (l.getD i z32).f0
    rw [drop_cons l q hq, List.countP_cons] at hn
    refine Ev.step (f := fun k => kimberliteref01_Depth.j2 k l x6 x7 (i : Int) (n : Int) (q : Int) (hasS (l.getD i z32).f0 (l.getD q z32))) (fun k => ?_) ?_
    · simp only [kimberliteref01_Depth.l1]
      rw [if_pos (by omega), if_pos (by omega), if_pos (by omega), if_pos (by omega), rd_nat, rd_nat]
      unfold hasS
      by_cases c : (l.getD q z32).f0 ≤ (l.getD i z32).f0
      · rw [if_pos c, decide_eq_true c, Bool.true_and]
      · rw [if_neg c, decide_eq_false c, Bool.false_and]
    · cases hs : hasS (l.getD i z32).f0 (l.getD q z32) with
      | true =>
        rw [hs, if_pos rfl] at hn
        have ih := ref_dep_l1 l hl x6 x7 i hi r K d (q + 1) (n + 1) (by omega) (by omega)
        refine Ev.step (fun k => ?_) ih
        simp only [kimberliteref01_Depth.j2]
        rw [if_pos trivial, wrap_succ hq (by omega), wrap_succ (i := n) (n := 2000) (by omega) (by omega)]
      | false =>
        rw [hs] at hn
        have ih := ref_dep_l1 l hl x6 x7 i hi r K d (q + 1) n (by omega) (by simpa using hn)
        refine Ev.step (fun k => ?_) ih
        simp only [kimberliteref01_Depth.j2]
        rw [if_neg (by simp), wrap_succ hq (by omega)]
theorem ref_dep_l0 (l : List S32) (hl : l.length ≤ 1000) : ∀ (d i : Nat) (st : Int × Int), l.length - i = d → Ev (fun k => kimberliteref01_Depth.l0 k l st.1 st.2 (i : Int)) ((depF l (l.drop i) st).1, (depF l (l.drop i) st).2, 0)
  | 0, i, st, h => by
    rw [List.drop_eq_nil_of_le (by omega)]
    exact Ev.step (f := fun _ => some (st.1, st.2, 0)) (fun k => by simp only [kimberliteref01_Depth.l0]; rw [if_neg (by omega)]) (Ev.now _)
  | d + 1, i, st, h => by
    have hi : i < l.length := by omega
    rw [drop_cons l i hi]
    have ih := ref_dep_l0 l hl d (i + 1) (depS l st (l.getD i z32)) (by omega)
    refine Ev.step (f := fun k => kimberliteref01_Depth.l1 k l st.1 st.2 (i : Int) ((0 : Nat) : Int) ((0 : Nat) : Int)) (fun k => by simp only [kimberliteref01_Depth.l0]; rw [if_pos (by omega)]; rfl) ?_
    refine ref_dep_l1 l hl st.1 st.2 i hi _ ?_ _ 0 0 rfl (by simp [cntS])
    refine Ev.step (fun k => ?_) ih
    simp only [kimberliteref01_Depth.j3]
    unfold depS
    by_cases c : (cntS l (l.getD i z32).f0 : Int) > st.1 ∨ ((cntS l (l.getD i z32).f0 : Int) = st.1 ∧ (l.getD i z32).f0 < st.2)
    · rw [if_pos (decide_eq_true c), if_pos c, if_pos (by omega), if_pos (by omega), rd_nat, wrap_succ hi (by omega)]
    · rw [if_neg (by simpa using c), if_neg c, wrap_succ hi (by omega)]
theorem refDepth_ev (l : List S32) : Ev (fun k => kimberliteref01_Depth.f k l) (depR l) := by
  unfold kimberliteref01_Depth.f depR
  refine Ev.bind (refList_ev l) ?_
  by_cases h : listR l = 0
  · have := (listR_good h).1
    simp only [if_pos h]
    simpa using ref_dep_l0 l (by omega) _ 0 (0, 0) rfl
  · simp only [if_neg h]
    exact Ev.now _
theorem depF_spec (l : List S32) : ∀ (m : List S32) (st : Int × Int), (∀ s ∈ m, (cntS l s.f0 : Int) ≤ (depF l m st).1 ∧ ((cntS l s.f0 : Int) = (depF l m st).1 → (depF l m st).2 ≤ s.f0)) ∧ st.1 ≤ (depF l m st).1 ∧ (st.1 = (depF l m st).1 → (depF l m st).2 ≤ st.2) ∧ (depF l m st = st ∨ ∃ s ∈ m, depF l m st = ((cntS l s.f0 : Int), s.f0))
  | [], st => ⟨fun s hs => (by cases hs), Int.le_refl _, fun _ => Int.le_refl _, .inl rfl⟩
  | s :: t, st => by
    obtain ⟨h1, h2, h3, h4⟩ := depF_spec l t (depS l st s)
    show (∀ x ∈ s :: t, _ ≤ (depF l t (depS l st s)).1 ∧ (_ = (depF l t (depS l st s)).1 → (depF l t (depS l st s)).2 ≤ _)) ∧ st.1 ≤ (depF l t (depS l st s)).1 ∧ (st.1 = (depF l t (depS l st s)).1 → (depF l t (depS l st s)).2 ≤ st.2) ∧ (depF l t (depS l st s) = st ∨ ∃ x ∈ s :: t, depF l t (depS l st s) = _)
    generalize hq : depF l t (depS l st s) = q at h1 h2 h3 h4 ⊢
    unfold depS at h2 h3 h4
    by_cases c : (cntS l s.f0 : Int) > st.1 ∨ ((cntS l s.f0 : Int) = st.1 ∧ s.f0 < st.2)
    · rw [if_pos c] at h2 h3 h4
      simp only at h2 h3
      refine ⟨fun x hx => ?_, by omega, fun h => ?_, .inr ?_⟩
      · rcases List.mem_cons.1 hx with rfl | hx
        · exact ⟨h2, fun h => h3 h⟩
        · exact h1 x hx
      · have : (cntS l s.f0 : Int) = q.1 := by omega
        have := h3 this
        omega
      · rcases h4 with h4 | ⟨x, hx, h4⟩
        · exact ⟨s, List.mem_cons_self, h4⟩
        · exact ⟨x, List.mem_cons_of_mem _ hx, h4⟩
    · rw [if_neg c] at h2 h3 h4
      refine ⟨fun x hx => ?_, h2, h3, ?_⟩
      · rcases List.mem_cons.1 hx with rfl | hx
        · refine ⟨by omega, fun h => ?_⟩
          have : st.1 = q.1 := by omega
          have := h3 this
          omega
        · exact h1 x hx
      · rcases h4 with h4 | ⟨x, hx, h4⟩
        · exact .inl h4
        · exact .inr ⟨x, List.mem_cons_of_mem _ hx, h4⟩
/-- Of the spans that have a number one begins last: all of them have its first number. -/
theorem last_begin : ∀ (l : List S32) (x : Int), 0 < cntS l x → ∃ s ∈ l, s.f0 ≤ x ∧ x < s.f1 ∧ ∀ t ∈ l, hasS x t = true → t.f0 ≤ s.f0
  | [], x, h => by simp [cntS] at h
  | s :: t, x, h => by
    unfold cntS at h
    rw [List.countP_cons] at h
    by_cases ht : 0 < cntS t x
    · obtain ⟨u, hu, u1, u2, u3⟩ := last_begin t x ht
      by_cases hs : hasS x s = true
      · have hs' := (hasS_iff x s).1 hs
        by_cases hc : s.f0 ≤ u.f0
        · refine ⟨u, List.mem_cons_of_mem _ hu, u1, u2, fun y hy hyx => ?_⟩
          rcases List.mem_cons.1 hy with rfl | hy
          · exact hc
          · exact u3 y hy hyx
        · refine ⟨s, List.mem_cons_self, hs'.1, hs'.2, fun y hy hyx => ?_⟩
          rcases List.mem_cons.1 hy with rfl | hy
          · exact Int.le_refl _
          · have := u3 y hy hyx; omega
      · refine ⟨u, List.mem_cons_of_mem _ hu, u1, u2, fun y hy hyx => ?_⟩
        rcases List.mem_cons.1 hy with rfl | hy
        · exact absurd hyx hs
        · exact u3 y hy hyx
    · have h0 : t.countP (hasS x) = 0 := by unfold cntS at ht; omega
      rw [h0] at h
      have hs : hasS x s = true := by
        cases hb : hasS x s with
        | true => rfl
        | false => rw [hb] at h; simp at h
      have hs' := (hasS_iff x s).1 hs
      refine ⟨s, List.mem_cons_self, hs'.1, hs'.2, fun y hy hyx => ?_⟩
      rcases List.mem_cons.1 hy with rfl | hy
      · exact Int.le_refl _
      · have := List.countP_eq_zero.1 h0 y hy
        exact absurd hyx this
theorem cnt_begin (l : List S32) (x : Int) (s : S32) (h1 : s.f0 ≤ x) (h3 : ∀ t ∈ l, hasS x t = true → t.f0 ≤ s.f0) : cntS l x ≤ cntS l s.f0 := by
  unfold cntS
  refine List.countP_mono_left (fun t ht htx => ?_)
  have := h3 t ht htx
  rw [hasS_iff] at *
  omega
/-- THE DEPTH IS THE GREATEST COUNT, AT THE SMALLEST NUMBER THAT HAS IT. -/
theorem depth_spec (l : List S32) : (∀ x, (cntS l x : Int) ≤ (depF l l (0, 0)).1) ∧ (∀ x, (cntS l x : Int) = (depF l l (0, 0)).1 → (depF l l (0, 0)).1 ≠ 0 → (depF l l (0, 0)).2 ≤ x) ∧ ((depF l l (0, 0)).1 ≠ 0 → (cntS l (depF l l (0, 0)).2 : Int) = (depF l l (0, 0)).1) ∧ 0 ≤ (depF l l (0, 0)).1 := by
  obtain ⟨h1, h2, h3, h4⟩ := depF_spec l l (0, 0)
  generalize depF l l (0, 0) = q at h1 h2 h3 h4 ⊢
  simp only at h2 h3
  refine ⟨fun x => ?_, fun x hx h0 => ?_, fun h0 => ?_, h2⟩
  · by_cases hc : 0 < cntS l x
    · obtain ⟨s, hs, s1, s2, s3⟩ := last_begin l x hc
      have := cnt_begin l x s s1 s3
      have := (h1 s hs).1
      omega
    · omega
  · have hc : 0 < cntS l x := by omega
    obtain ⟨s, hs, s1, s2, s3⟩ := last_begin l x hc
    have := cnt_begin l x s s1 s3
    have h5 := h1 s hs
    have := h5.2 (by omega)
    omega
  · rcases h4 with h4 | ⟨s, hs, h4⟩
    · rw [h4] at h0; simp at h0
    · rw [h4]
end Go.Proofs.Ytningpmoojnomaa.Pr
end
section
namespace Go.Proofs.Ytningpmoojnomaa.Pr
open Go.Sort
set_option linter.unusedVariables false
set_option linter.unusedSimpArgs false
/-- x stands ahead of y: by key, equal ones by index. -/
def Ord (kf : Int → Int) (x y : Int) : Prop := kf x < kf y ∨ (kf x = kf y ∧ x < y)
theorem Ord.trans {kf : Int → Int} {x y z : Int} (h : Ord kf x y) (h' : Ord kf y z) : Ord kf x z := by
  unfold Ord at *
  omega
theorem Ord.ne {kf : Int → Int} {x y : Int} (h : Ord kf x y) : ¬ Ord kf y x := by
  unfold Ord at *
  omega
theorem get_mid (x y : List Int) (u : Int) (n : Nat) (h : n = x.length) : (x ++ u :: y).toArray[n]! = u := by
  subst h
  rw [getElem!_pos _ _ (by simp)]
  simp
theorem swp_mid (x q y : List Int) (u v : Int) (i j : Nat) (hi : i = x.length) (hj : j = x.length + 1 + q.length) : swp (x ++ u :: q ++ v :: y).toArray i j = (x ++ v :: q ++ u :: y).toArray := by
  subst hi hj
  have e1 : (x ++ u :: q ++ v :: y).toArray[x.length]! = u := by
    rw [List.append_assoc]
    exact get_mid x _ u _ rfl
  have e2 : (x ++ u :: q ++ v :: y).toArray[x.length + 1 + q.length]! = v := get_mid (x ++ u :: q) y v _ (by simp; omega)
  unfold swp
  rw [e1, e2]
  apply Array.ext'
  rw [Array.toList_setIfInBounds, Array.toList_setIfInBounds]
  simp only
  rw [show (x ++ u :: q ++ v :: y) = x ++ u :: (q ++ v :: y) by simp, List.set_append_right _ _ (Nat.le_refl _), Nat.sub_self, List.set_cons_zero]
  rw [show x ++ v :: (q ++ v :: y) = (x ++ v :: q) ++ v :: y by simp, List.set_append_right _ _ (by simp; omega)]
  rw [show x.length + 1 + q.length - (x ++ v :: q).length = 0 by simp; omega, List.set_cons_zero]
theorem swp_back (x y : List Int) (u v : Int) (i j : Nat) (hi : i = x.length + 1) (hj : j = x.length) : swp (x ++ u :: v :: y).toArray i j = (x ++ v :: u :: y).toArray := by
  subst hi hj
  have e1 : (x ++ u :: v :: y).toArray[x.length]! = u := get_mid x _ u _ rfl
  have e2 : (x ++ u :: v :: y).toArray[x.length + 1]! = v := by
    rw [show x ++ u :: v :: y = (x ++ [u]) ++ v :: y by simp]
    exact get_mid _ y v _ (by simp)
  unfold swp
  rw [e1, e2]
  apply Array.ext'
  rw [Array.toList_setIfInBounds, Array.toList_setIfInBounds]
  simp only
  rw [show x ++ u :: v :: y = (x ++ [u]) ++ v :: y by simp, List.set_append_right _ _ (by simp), show x.length + 1 - (x ++ [u]).length = 0 by simp, List.set_cons_zero]
  rw [show (x ++ [u]) ++ u :: y = x ++ u :: u :: y by simp, List.set_append_right _ _ (Nat.le_refl _), Nat.sub_self, List.set_cons_zero]
theorem ord_at {kf : Int → Int} {L : List Int} (h : L.Pairwise (Ord kf)) {i j : Nat} (hij : i ≤ j) (hj : j < L.length) : L[i] = L[j] ∨ Ord kf L[i] L[j] := by
  rcases Nat.lt_or_ge i j with hlt | hge
  · exact .inr ((List.pairwise_iff_getElem.1 h) i j (by omega) hj hlt)
  · obtain rfl : i = j := by omega
    exact .inl rfl
theorem key_at {kf : Int → Int} {L : List Int} (h : L.Pairwise (Ord kf)) {i j : Nat} (hij : i ≤ j) (hj : j < L.length) : kf L[i] ≤ kf L[j] := by
  rcases ord_at h hij hj with e | e
  · rw [e]; exact Int.le_refl _
  · unfold Ord at e; omega
theorem sym_split (kf : Int → Int) (L R : List Int) (s t : Nat) (hL : L.Pairwise (Ord kf)) (hR : R.Pairwise (Ord kf)) (hLR : ∀ l ∈ L, ∀ r ∈ R, l < r) (hs : s ≤ L.length) (ht : t ≤ R.length)
    (c1 : s = 0 ∨ t = R.length ∨ ∃ h1 : t < R.length, ∃ h2 : s - 1 < L.length, ¬ kf R[t] < kf L[s - 1]) (c2 : s = L.length ∨ t = 0 ∨ ∃ h1 : t - 1 < R.length, ∃ h2 : s < L.length, kf R[t - 1] < kf L[s]) :
    ∀ x ∈ L.take s ++ R.take t, ∀ y ∈ L.drop s ++ R.drop t, Ord kf x y := by
  intro x hx y hy
  have tk : ∀ (l : List Int) (n : Nat) (z : Int), z ∈ l.take n → ∃ i, ∃ h : i < l.length, i < n ∧ z = l[i] := fun l n z hz => by
    obtain ⟨i, hi, rfl⟩ := List.mem_iff_getElem.1 hz
    rw [List.length_take] at hi
    exact ⟨i, by omega, by omega, by rw [List.getElem_take]⟩
  have dr : ∀ (l : List Int) (n : Nat) (z : Int), z ∈ l.drop n → ∃ i, ∃ h : i < l.length, n ≤ i ∧ z = l[i] := fun l n z hz => by
    obtain ⟨i, hi, rfl⟩ := List.mem_iff_getElem.1 hz
    rw [List.length_drop] at hi
    exact ⟨n + i, by omega, by omega, by rw [List.getElem_drop]⟩
  rcases List.mem_append.1 hx with hx | hx <;> rcases List.mem_append.1 hy with hy | hy
  · obtain ⟨i, hi, his, rfl⟩ := tk _ _ _ hx
    obtain ⟨j, hj, hjs, rfl⟩ := dr _ _ _ hy
    exact (List.pairwise_iff_getElem.1 hL) i j hi hj (by omega)
  · obtain ⟨i, hi, his, rfl⟩ := tk _ _ _ hx
    obtain ⟨j, hj, hjs, rfl⟩ := dr _ _ _ hy
    rcases c1 with c | c | ⟨h1, h2, c⟩
    · omega
    · omega
    · have k1 := key_at hL (show i ≤ s - 1 by omega) h2
      have k2 := key_at hR (show t ≤ j by omega) hj
      have := hLR L[i] (List.getElem_mem hi) R[j] (List.getElem_mem hj)
      unfold Ord
      omega
  · obtain ⟨i, hi, his, rfl⟩ := tk _ _ _ hx
    obtain ⟨j, hj, hjs, rfl⟩ := dr _ _ _ hy
    rcases c2 with c | c | ⟨h1, h2, c⟩
    · omega
    · omega
    · have k1 := key_at hR (show i ≤ t - 1 by omega) h1
      have k2 := key_at hL (show s ≤ j by omega) hj
      unfold Ord
      omega
  · obtain ⟨i, hi, his, rfl⟩ := tk _ _ _ hx
    obtain ⟨j, hj, hjs, rfl⟩ := dr _ _ _ hy
    exact (List.pairwise_iff_getElem.1 hR) i j hi hj (by omega)
theorem sym_join {kf : Int → Int} {L R M1 M2 : List Int} {s t : Nat} (hx : ∀ x ∈ L.take s ++ R.take t, ∀ y ∈ L.drop s ++ R.drop t, Ord kf x y) (h1 : M1.Perm (L.take s ++ R.take t)) (h2 : M2.Perm (L.drop s ++ R.drop t)) (s1 : M1.Pairwise (Ord kf)) (s2 : M2.Pairwise (Ord kf)) :
    (M1 ++ M2).Perm (L ++ R) ∧ (M1 ++ M2).Pairwise (Ord kf) := by
  constructor
  · refine (h1.append h2).trans ?_
    have e : L ++ R = (L.take s ++ L.drop s) ++ (R.take t ++ R.drop t) := by rw [List.take_append_drop, List.take_append_drop]
    rw [e, List.append_assoc, List.append_assoc]
    refine List.Perm.append_left _ ?_
    rw [← List.append_assoc, ← List.append_assoc]
    exact List.Perm.append_right _ List.perm_append_comm
  · rw [List.pairwise_append]
    exact ⟨s1, s2, fun a ha b hb => hx a (h1.mem_iff.1 ha) b (h2.mem_iff.1 hb)⟩
def irange (s e : Nat) : List Int := (List.range' s (e - s)).map (fun i : Nat => (i : Int))
def sub (l : List Int) (s e : Nat) : List Int := (l.drop s).take (e - s)
/-- From place s to place e stand the indexes s to e, in order. -/
def Seg (kf : Int → Int) (l : List Int) (s e : Nat) : Prop := (sub l s e).Pairwise (Ord kf) ∧ (sub l s e).Perm (irange s e)
theorem irange_mem (s e : Nat) (x : Int) : x ∈ irange s e ↔ (s : Int) ≤ x ∧ x < (e : Int) := by
  unfold irange
  rw [List.mem_map]
  constructor
  · rintro ⟨i, hi, rfl⟩
    rw [List.mem_range'_1] at hi
    omega
  · rintro ⟨h1, h2⟩
    exact ⟨x.toNat, by rw [List.mem_range'_1]; omega, by omega⟩
theorem irange_len (s e : Nat) : (irange s e).length = e - s := by unfold irange; simp
theorem irange_append (s m e : Nat) (h1 : s ≤ m) (h2 : m ≤ e) : irange s m ++ irange m e = irange s e := by
  unfold irange
  rw [← List.map_append]
  congr 1
  have := List.range'_append (s := s) (m := m - s) (n := e - m) (step := 1)
  rw [show s + 1 * (m - s) = m by omega, show m - s + (e - m) = e - s by omega] at this
  exact this
theorem irange_lt (s e : Nat) : (irange s e).Pairwise (· < ·) := by
  unfold irange
  rw [List.pairwise_map]
  exact (List.pairwise_lt_range' (s := s) (n := e - s) (step := 1) (by omega)).imp (fun h => by omega)
theorem sub_len (l : List Int) (s e : Nat) (h : e ≤ l.length) : (sub l s e).length = e - s := by unfold sub; simp; omega
/-- A list cut at three places. -/
theorem cut3 (l : List Int) (a m b : Nat) (h1 : a ≤ m) (h2 : m ≤ b) : l = l.take a ++ sub l a m ++ sub l m b ++ l.drop b := by
  unfold sub
  have e1 : l.take a ++ (l.drop a).take (m - a) = l.take m := by
    rw [← List.take_append_drop a (l.take m), List.take_take, Nat.min_eq_left h1, List.drop_take]
  have e2 : l.take m ++ (l.drop m).take (b - m) = l.take b := by
    rw [← List.take_append_drop m (l.take b), List.take_take, Nat.min_eq_left h2, List.drop_take]
  rw [e1, e2, List.take_append_drop]
theorem sub_left (l : List Int) (M Y : List Int) (a s e : Nat) (ha : a ≤ l.length) (he : e ≤ a) : sub (l.take a ++ M ++ Y) s e = sub l s e := by
  unfold sub
  rw [← List.drop_take, ← List.drop_take]
  have e1 : ∀ k : List Int, k.take e = (k.take a).take e := fun k => by rw [List.take_take, Nat.min_eq_left he]
  rw [e1 (l.take a ++ M ++ Y), e1 l, List.append_assoc, List.take_left' (by simp; omega)]
theorem sub_right (l : List Int) (X M : List Int) (b s e : Nat) (hX : (X ++ M).length = b) (hs : b ≤ s) : sub (X ++ M ++ l.drop b) s e = sub l s e := by
  unfold sub
  rw [List.drop_append, hX, List.drop_eq_nil_of_le (by omega), List.nil_append, List.drop_drop]
  rw [show b + (s - b) = s by omega]
theorem sub_mid (X M Y : List Int) (a b : Nat) (hX : X.length = a) (hM : a + M.length = b) : sub (X ++ M ++ Y) a b = M := by
  unfold sub
  rw [List.append_assoc, List.drop_left' hX, List.take_left' (by omega)]
theorem seg_left {kf : Int → Int} {l M Y : List Int} {a s e : Nat} (h : Seg kf l s e) (ha : a ≤ l.length) (he : e ≤ a) : Seg kf (l.take a ++ M ++ Y) s e := by
  unfold Seg
  rw [sub_left l M Y a s e ha he]
  exact h
theorem seg_right {kf : Int → Int} {l X M : List Int} {b s e : Nat} (h : Seg kf l s e) (hX : (X ++ M).length = b) (hs : b ≤ s) : Seg kf (X ++ M ++ l.drop b) s e := by
  unfold Seg
  rw [sub_right l X M b s e hX hs]
  exact h
instance ordDec (kf : Int → Int) (x y : Int) : Decidable (Ord kf x y) := inferInstanceAs (Decidable (_ ∨ _))
/-- The one order of the indexes 0 to n by a key. -/
def byL (kf : Int → Int) (n : Nat) : List Int := (irange 0 n).mergeSort (fun x y => decide (Ord kf x y ∨ x = y))
theorem byL_perm (kf : Int → Int) (n : Nat) : (byL kf n).Perm (irange 0 n) := List.mergeSort_perm _ _
theorem irange_nodup (s e : Nat) : (irange s e).Nodup := (irange_lt s e).imp (fun h => by omega)
theorem byL_sorted (kf : Int → Int) (n : Nat) : (byL kf n).Pairwise (Ord kf) := by
  have h := List.pairwise_mergeSort (le := fun x y : Int => decide (Ord kf x y ∨ x = y)) (fun a b c h1 h2 => by
    simp only [decide_eq_true_eq] at *
    rcases h1 with h1 | rfl
    · rcases h2 with h2 | rfl
      · exact .inl (h1.trans h2)
      · exact .inl h1
    · exact h2) (fun a b => by
    simp only [Bool.or_eq_true, decide_eq_true_eq]
    unfold Ord
    omega) (irange 0 n)
  have hn : (byL kf n).Nodup := (byL_perm kf n).nodup_iff.2 (irange_nodup 0 n)
  refine (h.and hn).imp (fun {x y} hxy => ?_)
  obtain ⟨h1, h2⟩ := hxy
  simp only [decide_eq_true_eq] at h1
  rcases h1 with h1 | h1
  · exact h1
  · exact absurd h1 h2
theorem sorted_unique {kf : Int → Int} : ∀ {l l' : List Int}, l.Pairwise (Ord kf) → l'.Pairwise (Ord kf) → l.Perm l' → l = l'
  | [], l', _, _, h => (List.nil_perm.1 h).symm ▸ rfl
  | x :: t, [], _, _, h => absurd h.length_eq (by simp)
  | x :: t, y :: t', h1, h2, h => by
    rw [List.pairwise_cons] at h1 h2
    have hx : x ∈ y :: t' := h.mem_iff.1 List.mem_cons_self
    have hy : y ∈ x :: t := h.mem_iff.2 List.mem_cons_self
    have e : x = y := by
      rcases List.mem_cons.1 hx with hx | hx
      · exact hx
      · rcases List.mem_cons.1 hy with hy | hy
        · exact hy.symm
        · exact absurd (h1.1 y hy) (h2.1 x hx).ne
    subst e
    rw [sorted_unique h1.2 h2.2 (List.perm_cons x |>.1 h)]
theorem byL_unique {kf : Int → Int} {n : Nat} {l : List Int} (h : l.Pairwise (Ord kf)) (hp : l.Perm (irange 0 n)) : l = byL kf n := sorted_unique h (byL_sorted kf n) (hp.trans (byL_perm kf n).symm)
theorem sub_all (l : List Int) (n : Nat) (h : l.length = n) : sub l 0 n = l := by
  unfold sub
  rw [List.drop_zero, Nat.sub_zero, List.take_of_length_le (by omega)]
theorem seg_all {kf : Int → Int} {l : List Int} {n : Nat} (hn : l.length = n) (h : Seg kf l 0 n) : l = byL kf n := by
  obtain ⟨h1, h2⟩ := h
  rw [sub_all l n hn] at h1 h2
  exact byL_unique h1 h2
end Go.Proofs.Ytningpmoojnomaa.Pr
end
section
namespace Go.Proofs.Ytningpmoojnomaa.Pr
open Go.Shelf Go.RowKit Go.Lib Go.Sort Go.Proofs.YtningpmoojnomaaW.PrintWords
set_option linter.unusedVariables false
set_option linter.unusedSimpArgs false
abbrev eI : Int → Value := Value.int .i64
theorem swap_at (x p q r y : List Int) (i : Nat) (hi : i < p.length) (hr : p.length = r.length) :
    swp (x ++ (r.take i ++ p.drop i) ++ q ++ (p.take i ++ r.drop i) ++ y).toArray (x.length + i) (x.length + p.length + q.length + i) = (x ++ (r.take (i + 1) ++ p.drop (i + 1)) ++ q ++ (p.take (i + 1) ++ r.drop (i + 1)) ++ y).toArray := by
  have hir : i < r.length := by omega
  have e := swp_mid (x ++ r.take i) (p.drop (i + 1) ++ q ++ p.take i) (r.drop (i + 1) ++ y) p[i] r[i] (x.length + i) (x.length + p.length + q.length + i) (by simp; omega) (by simp; omega)
  have e1 : x ++ (r.take i ++ p.drop i) ++ q ++ (p.take i ++ r.drop i) ++ y = x ++ r.take i ++ p[i] :: (p.drop (i + 1) ++ q ++ p.take i) ++ r[i] :: (r.drop (i + 1) ++ y) := by
    rw [List.drop_eq_getElem_cons hi, List.drop_eq_getElem_cons hir]
    simp only [List.append_assoc, List.cons_append, List.nil_append]
  have e2 : x ++ (r.take (i + 1) ++ p.drop (i + 1)) ++ q ++ (p.take (i + 1) ++ r.drop (i + 1)) ++ y = x ++ r.take i ++ r[i] :: (p.drop (i + 1) ++ q ++ p.take i) ++ p[i] :: (r.drop (i + 1) ++ y) := by
    rw [List.take_succ_eq_append_getElem hi, List.take_succ_eq_append_getElem hir]
    simp only [List.append_assoc, List.cons_append, List.nil_append]
  rw [e1, e2, e]
set_option maxHeartbeats 4000000 in
set_option maxRecDepth 1000000 in
theorem swapRange_c (g : Nat) (cb : Array Value) (blk off cap N a b n : Nat) (d0 : Array Int) (w0 w : World) (x p q r y : List Int) (R : Row1 eI w0 blk off d0) (hr : p.length = r.length) (hs : d0.size = N) (hN : (x ++ p ++ q ++ r ++ y).length = N)
    (S : SW eI w0 blk off (x ++ p ++ q ++ r ++ y).toArray w) (ha : a = x.length) (hb : b = x.length + p.length + q.length) (hn : n = p.length) (hsz : N < 4611686018427387904) :
    Calls Try.prog 134 #[.slice (some ⟨blk, off, none⟩) N cap, .int .i64 a, .int .i64 b, .int .i64 n, .func (.func g) #[] cb] w fun e w' => e = .returned (.tuple #[]) ∧ SW eI w0 blk off (x ++ r ++ q ++ p ++ y).toArray w' := by
  have hcl0 := R.hO.cells
  simp only [Value.cells] at hcl0
  have hst := R.hO.store Try.prog
  have u33 := Try.underlying33
  have S0 : Aside (SW eI w0 blk off (x ++ p ++ q ++ r ++ y).toArray w) := S
  have hlen : x.length + p.length + q.length + r.length ≤ N := by rw [← hN]; simp; omega
  have HA := Aside0.mk ha
  have HBB := Aside0.mk hb
  have HN := Aside0.mk hn
  have hA : a = x.length := ha
  have hBl : a + n ≤ b ∧ b + n ≤ N := by omega
  clear S ha hb hn hA
  go_enter Try.func134, Try.ntmps134
  go_wp2
  go_loopg [10] n (fun kx s8 wr => ∃ (i : Nat), s8 = .int .i64 i ∧ i ≤ n ∧ n - i ≤ kx ∧ Aside (SW eI w0 blk off (x ++ (r.take i ++ p.drop i) ++ q ++ (p.take i ++ r.drop i) ++ y).toArray wr))
  case atStart => exact ⟨0, rfl, by omega, by omega, (show Aside _ from by simpa using S0)⟩
  case round =>
    clear S0
    obtain ⟨i, rfl, hin, hkx, S1⟩ := hrel
    by_cases hlt : i < n
    · have hltz : (i : Int) < (n : Int) := by omega
      have hip : i < p.length := by have := HN.out; omega
      have hir : i < r.length := by have := HN.out; omega
      obtain ⟨dk, hdk⟩ : ∃ dk, dk = (x ++ (r.take i ++ p.drop i) ++ q ++ (p.take i ++ r.drop i) ++ y).toArray := ⟨_, rfl⟩
      have hds : dk.size = N := by rw [hdk, ← hN]; simp; have := HN.out; omega
      have hsw : swp dk (a + i) (b + i) = (x ++ (r.take (i + 1) ++ p.drop (i + 1)) ++ q ++ (p.take (i + 1) ++ r.drop (i + 1)) ++ y).toArray := by rw [hdk, HA.out, HBB.out]; exact swap_at x p q r y i hip hr
      rw [← hdk] at S1
      obtain ⟨iN, hiN⟩ : ∃ q, q = a + i := ⟨_, rfl⟩
      obtain ⟨jN, hjN⟩ : ∃ q, q = b + i := ⟨_, rfl⟩
      have ra1 : IntKind.i64.wrap ((a : Int) + (i : Int)) = (a : Int) + (i : Int) := by rw [IntKind.wrap_i64]; omega
      have rb1 : IntKind.i64.wrap ((b : Int) + (i : Int)) = (b : Int) + (i : Int) := by rw [IntKind.wrap_i64]; omega
      have ea1 : ((a : Int) + (i : Int)).toNat = iN := by omega
      have pa1 : (0 : Int) ≤ (a : Int) + (i : Int) := by omega
      have ba1 : (a : Int) + (i : Int) < (N : Int) := by omega
      have ec1 : ((b : Int) + (i : Int)).toNat = jN := by omega
      have pc1 : (0 : Int) ≤ (b : Int) + (i : Int) := by omega
      have bc1 : (b : Int) + (i : Int) < (N : Int) := by omega
      obtain ⟨x1, hx1⟩ : ∃ x, x = dk[a + i]! := ⟨_, rfl⟩
      obtain ⟨y1, hy1⟩ : ∃ x, x = dk[b + i]! := ⟨_, rfl⟩
      have S2 : Aside (SW eI w0 blk off (swp dk (a + i) (b + i)) ((wr.setCell ⟨blk, off + iN, none⟩ (eI y1)).setCell ⟨blk, off + jN, none⟩ (eI x1)).drew) := by rw [hiN, hjN, hx1, hy1]; exact S1.out.swapped R (a + i) (b + i) (by omega) (by omega)
      have c1a := S1.out.c1 R (by omega) (a + i) (by omega)
      have c1b := S1.out.c1 R (by omega) (b + i) (by omega)
      have f1a := S1.out.f1 R (by omega) (a + i) (by omega)
      have f1b := S1.out.f1 R (by omega) (b + i) (by omega)
      obtain ⟨u1, c1c⟩ := S1.out.c2 R (by omega) (a + i) (b + i) (by omega) (by omega) (eI y1)
      rw [← hjN, ← hiN] at c1c
      rw [← hx1, ← hiN] at c1a
      rw [← hy1, ← hjN] at c1b
      rw [← hiN] at f1a
      rw [← hjN] at f1b
      rw [hsw] at S2
      clear S1 hx1 hy1 hiN hjN hsw hdk hds hip hir
      go_wp2_with fail
      go_big_region
      clear c1a c1b c1c f1a f1b
      generalize ((wr.setCell ⟨blk, off + iN, none⟩ (eI y1)).setCell ⟨blk, off + jN, none⟩ (eI x1)).drew = w2 at S2 ⊢
      clear ea1 ec1
      go_wp2
      go_roundg (n - (i + 1))
      case measure => omega
      case rel => exact ⟨i + 1, by go_num, by omega, by omega, S2⟩
    · have hltz : ¬ (i : Int) < (n : Int) := by omega
      obtain rfl : i = n := by omega
      go_wp2
      go_end0
      refine ⟨rfl, ?_⟩
      have h := S1.out
      have := HN.out
      rw [List.take_of_length_le (show r.length ≤ i by omega), List.take_of_length_le (show p.length ≤ i by omega), List.drop_eq_nil_of_le (show p.length ≤ i by omega), List.drop_eq_nil_of_le (show r.length ≤ i by omega), List.append_nil] at h
      simpa [List.append_assoc] using h
set_option maxHeartbeats 4000000 in
set_option maxRecDepth 1000000 in
theorem rotate_c (g : Nat) (cb : Array Value) (blk off cap N a m b : Nat) (d0 : Array Int) (w0 w : World) (x u v y : List Int) (R : Row1 eI w0 blk off d0) (hs : d0.size = N) (hN : (x ++ u ++ v ++ y).length = N)
    (S : SW eI w0 blk off (x ++ u ++ v ++ y).toArray w) (ha : a = x.length) (hm : m = x.length + u.length) (hb : b = x.length + u.length + v.length) (hu : 0 < u.length) (hv : 0 < v.length) (hsz : N < 4611686018427387904) :
    Calls Try.prog 124 #[.slice (some ⟨blk, off, none⟩) N cap, .int .i64 a, .int .i64 m, .int .i64 b, .func (.func g) #[] cb] w fun e w' => e = .returned (.tuple #[]) ∧ SW eI w0 blk off (x ++ v ++ u ++ y).toArray w' := by
  have S0 : Aside (SW eI w0 blk off (x ++ u ++ v ++ y).toArray w) := S
  have HL := Aside0.mk (show x.length + u.length + v.length + y.length = N by rw [← hN]; simp only [List.length_append])
  have HA := Aside0.mk ha
  have HMM := Aside0.mk hm
  have HBB := Aside0.mk hb
  have hl : a < m ∧ m < b ∧ b ≤ N := by have := HL.out; omega
  have HU := Aside0.mk (show m - a = u.length by omega)
  have HV := Aside0.mk (show b - m = v.length by omega)
  clear S ha hm hb hN hu hv
  have HSW := Aside0.mk (fun w a b n x p q r y h1 h2 h3 h4 h5 h6 => swapRange_c g cb blk off cap N a b n d0 w0 w x p q r y R h1 hs h2 h3 h4 h5 h6 hsz)
  go_enter Try.func124, Try.ntmps124
  go_wp2
  go_loopg [10, 11] (b - a) (fun kx s10 s11 wr => ∃ (i j k : Nat) (X U V Y : List Int), s10 = .int .i64 i ∧ s11 = .int .i64 j ∧ 0 < i ∧ 0 < j ∧ k + i = m ∧ m + j ≤ N ∧ i + j ≤ kx ∧ Aside0 (U.length = i) ∧ Aside0 (V.length = j) ∧ Aside0 (X.length = k) ∧ Aside0 (X.length + U.length + V.length + Y.length = N) ∧ Aside0 (X ++ V ++ U ++ Y = x ++ v ++ u ++ y) ∧ Aside (SW eI w0 blk off (X ++ U ++ V ++ Y).toArray wr))
  case atStart => exact ⟨m - a, b - m, a, x, u, v, y, by go_num, by go_num, by omega, by omega, by omega, by omega, by omega, ⟨HU.out.symm⟩, ⟨HV.out.symm⟩, ⟨HA.out.symm⟩, HL, ⟨rfl⟩, S0⟩
  case round =>
    clear S0
    obtain ⟨i, j, k, X, U, V, Y, rfl, rfl, hi, hj, hki, hjN, hkx, HU1, HV1, HX1, HL1, HT, S1⟩ := hrel
    have hmi : (m : Int) - (i : Int) = (k : Int) := by omega
    have HKI := Aside0.mk hki
    clear hki
    rcases (by omega : i = j ∨ i > j ∨ i < j) with hij | hij | hij
    · subst hij
      have hc := HSW.out wr k m i X U [] V Y (by rw [HU1.out, HV1.out]) (by simp only [List.length_append, List.length_nil]; have := HL1.out; omega) (by have := S1.out; simpa using this) HX1.out.symm (by have := HKI.out; have := HX1.out; have := HU1.out; simp; omega) HU1.out.symm
      go_wp2_with fail
      go_wp2_with (go_at_call 134; refine hc.mono ?_; rintro e w2 ⟨rfl, hS⟩)
      go_end0
      refine ⟨rfl, ?_⟩
      have := HT.out
      rw [List.append_nil, this] at hS
      exact hS
    · have hg : (j : Int) < (i : Int) := by omega
      have hne : ¬ (i : Int) = (j : Int) := by omega
      have hcc := HSW.out wr k m j X (U.take j) (U.drop j) V Y (by rw [List.length_take, HV1.out, HU1.out]; omega) (by rw [← HL1.out]; simp only [List.length_append, List.length_take, List.length_drop, HU1.out]; omega) (by have := S1.out; rw [List.append_assoc X, List.take_append_drop]; exact this) HX1.out.symm (by simp only [List.length_take, List.length_drop, HU1.out, HX1.out]; have := HKI.out; omega) (by rw [List.length_take, HU1.out]; omega)
      go_wp2_with (go_at_call 134; refine hcc.mono ?_; rintro e w2 ⟨rfl, hS⟩)
      have S2 : Aside (SW eI w0 blk off (X ++ V ++ U.drop j ++ U.take j ++ Y).toArray w2) := hS
      clear hS hcc
      have hij2 : (i : Int) - (j : Int) = ((i - j : Nat) : Int) := by omega
      go_wp2
      go_roundg (i - j + j)
      case measure => omega
      case rel => exact ⟨i - j, j, k + j, X ++ V, U.drop j, U.take j, Y, by go_num, rfl, by omega, by omega, by have := HKI.out; omega, by omega, by omega, ⟨by rw [List.length_drop, HU1.out]⟩, ⟨by rw [List.length_take, HU1.out]; omega⟩, ⟨by rw [List.length_append, HX1.out, HV1.out]⟩, ⟨by rw [← HL1.out]; simp only [List.length_append, List.length_take, List.length_drop, HU1.out]; omega⟩, ⟨by rw [← HT.out, List.append_assoc (X ++ V), List.take_append_drop]⟩, S2⟩
    · have hg : ¬ (j : Int) < (i : Int) := by omega
      have hne : ¬ (i : Int) = (j : Int) := by omega
      have hmj : (m : Int) + (j : Int) - (i : Int) = ((m + j - i : Nat) : Int) := by omega
      have hcc := HSW.out wr k (m + j - i) i X U (V.take (j - i)) (V.drop (j - i)) Y (by rw [List.length_drop, HV1.out, HU1.out]; omega) (by rw [← HL1.out]; simp only [List.length_append, List.length_take, List.length_drop, HV1.out]; omega) (by have := S1.out; rw [List.append_assoc (X ++ U), List.take_append_drop]; exact this) HX1.out.symm (by simp only [List.length_take, HU1.out, HX1.out, HV1.out]; have := HKI.out; omega) HU1.out.symm
      go_wp2_with (go_at_call 134; refine hcc.mono ?_; rintro e w2 ⟨rfl, hS⟩)
      have S2 : Aside (SW eI w0 blk off (X ++ V.drop (j - i) ++ V.take (j - i) ++ (U ++ Y)).toArray w2) := by rw [← List.append_assoc]; exact hS
      clear hS hcc
      have hij2 : (j : Int) - (i : Int) = ((j - i : Nat) : Int) := by omega
      go_wp2
      go_roundg (i + (j - i))
      case measure => omega
      case rel => exact ⟨i, j - i, k, X, V.drop (j - i), V.take (j - i), U ++ Y, rfl, by go_num, by omega, by omega, by have := HKI.out; omega, by omega, by omega, ⟨by rw [List.length_drop, HV1.out]; omega⟩, ⟨by rw [List.length_take, HV1.out]; omega⟩, HX1, ⟨by rw [← HL1.out]; simp only [List.length_append, List.length_take, List.length_drop, HV1.out]; omega⟩, ⟨by rw [← HT.out, ← List.append_assoc, List.append_assoc X, List.take_append_drop]⟩, S2⟩
end Go.Proofs.Ytningpmoojnomaa.Pr
end
