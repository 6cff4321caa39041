/- What the proof of the law needs, trimmed and merged by wip/pack.py out of the texts YtmomcbhgggggnaaGreatDoorPrx12, YtmomcbhgggggnaaGreatDoorTxp, YtmomcbhgggggnaaGreatDoorExtParse, YtmomcbhgggggnaaGreatDoorPrp, YtmomcbhgggggnaaGreatDoorPrs, YtmomcbhgggggnaaGreatDoorCnt, YtmomcbhgggggnaaGreatDoorRowI. No condition. -/
import Derived.Lib.ItoaLen
import Derived.Lib.AtoiErrMem
import Derived.Lib.SplitLaws
import Derived.Test.YtmomcbhgggggnaaGreatDoorKSpanCounts0
import Derived.Test.YtmomcbhgggggnaaGreatDoorKSpanCounts1
import Derived.Test.YtmomcbhgggggnaaGreatDoorKSpanCounts2
import Derived.Test.YtmomcbhgggggnaaGreatDoorKSpanCounts3
section
namespace Go.Proofs.YtmomcbhgggggnaaGreatDoor.Pr
open Go.RowKit Go.Proofs.YtmomcbhgggggnaaGreatDoorW.PrintWords Go.Proofs.YtmomcbhgggggnaaGreatDoorW.PrintLast Go.Proofs.YtmomcbhgggggnaaGreatDoorW.PrintMore
attribute [local go_sem] max2_int min2_int max_two min_two max_three min_three max_four min_four   -- for this text's walks alone
set_option linter.unusedVariables false
set_option linter.unusedSimpArgs false
def span_Text.l0 : Nat → List ByteArray → List (S41) → Int → Int → Option (ByteArray × Int)
 | 0, _, _, _, _ => none
 | k + 1, x4, x13, x14, x15 => if x15 < x14 then (if 0 ≤ x15 then (if x15 < (x13.length : Int) then ((strconv_Itoa.f ((rd_T41 x13 x15).f0)).bind fun t146 => (if t146.size + 2 ≤ 9223372036854775807 then ((strconv_Itoa.f ((rd_T41 x13 x15).f1)).bind fun t147 => (if (t146 ++ (⟨#[46, 46]⟩ : ByteArray)).size + t147.size ≤ 9223372036854775807 then (if x4.length < 8796093022208 then (span_Text.l0 k (x4 ++ [(t146 ++ (⟨#[46, 46]⟩ : ByteArray)) ++ t147]) x13 x14 (wrap64 (x15 + 1))) else (none)) else (none))) else (none))) else (none)) else (none)) else ((strings_Join.f x4 (⟨#[32]⟩ : ByteArray)).bind fun t151 => (some (t151, 0)))
def span_Text.f (k : Nat) (l0 : List (S41)) : Option (ByteArray × Int) := (span_Valid.f k l0).bind fun t143 => (if t143 = true then (if (l0.length : Int) = 0 then (some ((⟨#[45]⟩ : ByteArray), 0)) else (span_Text.l0 k ([] : List ByteArray) l0 (l0.length : Int) 0)) else (some ((⟨#[]⟩ : ByteArray), 2)))
theorem span_Text.mono_l : ∀ k, (∀ y0 y1 y2 y3, LeO (span_Text.l0 k y0 y1 y2 y3) (span_Text.l0 (k + 1) y0 y1 y2 y3))
 | 0 => fun _ _ _ _ r h => by simp [span_Text.l0] at h
 | k + 1 => by
  have ih0 := span_Text.mono_l k
  · intro y0 y1 y2 y3
    unfold span_Text.l0
    repeat' first
    | (with_reducible exact ih0 _ _ _ _)
    | (with_reducible exact span_Valid.mono _ _)
    | (with_reducible exact LeO.refl _)
    | (with_reducible exact LeO.none _)
    | (with_reducible refine LeO.ite ?_ ?_)
    | (with_reducible refine LeO.bind ?_ (fun _ => ?_))
    | exact ih0 _ _ _ _
    | exact span_Valid.mono _ _
    | exact LeO.none _
    | refine LeO.ite ?_ ?_
    | refine LeO.bind ?_ (fun _ => ?_)
theorem span_Text.mono : ∀ a0 k, LeO (span_Text.f k a0) (span_Text.f (k + 1) a0) := by
 intro a0 k
 have ih0 := span_Text.mono_l k
 unfold span_Text.f
 repeat' first
  | (with_reducible exact ih0 _ _ _ _)
  | (with_reducible exact span_Valid.mono _ _)
  | (with_reducible exact LeO.refl _)
  | (with_reducible exact LeO.none _)
  | (with_reducible refine LeO.ite ?_ ?_)
  | (with_reducible refine LeO.bind ?_ (fun _ => ?_))
  | exact ih0 _ _ _ _
  | exact span_Valid.mono _ _
  | exact LeO.none _
  | refine LeO.ite ?_ ?_
  | refine LeO.bind ?_ (fun _ => ?_)
def span_Text.T9 : Bool × List (List Nat × List Nat) := (true, [([], []), ([], []), ([1], [1]), ([2], [2]), ([3], [3]), ([], []), ([5], [5]), ([6, 3], [6]), ([4, 7], [4, 7]), ([8], [8]), ([0, 9, 7], [0, 9]), ([10, 10, 0, 1, 2, 3, 4, 5, 6, 7, 8, 9, 10], [0, 10])])
def span_Text.B9 : List Nat := [0, 0, 2, 6, 14, 0, 32, 110, 254, 510, 1023, 2047]
theorem span_Text.tab9 : rtab .any (opsOf Tryz.f7 9) = span_Text.T9 := by kernel_rfl
theorem span_Text.bits9 : waitsOk span_Text.T9.2 span_Text.B9 = true := by kernel_rfl
set_option maxHeartbeats 8000000 in
set_option maxRecDepth 100000 in
theorem span_Text.calls (k : Nat) (A0 : Option Addr) (c0 : Nat) (l0 : List (S41)) (r1 : ByteArray) (r2 : Int) (w : World) (HLD : Aside0 (LaidAt w)) (hr0 : Kd.C k41 w A0 l0.length l0) (hc0 : l0.length ≤ c0) (h : span_Text.f k l0 = some (r1, r2)) :
 Calls Tryz.prog 7 #[.slice A0 l0.length c0] w fun e w' => e = .returned (.tuple #[.string r1, .int .i64 r2]) ∧ Below w.heap.size w w' := by
 have hu41 := Tryz.underlying41
 have HR0 := Aside0.mk hr0
 have HC0 := Aside0.mk hc0
 clear hr0 hc0
 have HB := Aside0.mk (Below.refl w.heap.size w)
 have H : ((span_Valid.f k l0).bind fun t143 => (if t143 = true then (if (l0.length : Int) = 0 then (some ((⟨#[45]⟩ : ByteArray), 0)) else (span_Text.l0 k ([] : List ByteArray) l0 (l0.length : Int) 0)) else (some ((⟨#[]⟩ : ByteArray), 2)))) = some (r1, r2) := h
 clear h
 replace H := Option.bind_eq_some_iff.mp H
 obtain ⟨t143, A20, H⟩ := H
 replace H : (if t143 = true then (if (l0.length : Int) = 0 then (some ((⟨#[45]⟩ : ByteArray), 0)) else (span_Text.l0 k ([] : List ByteArray) l0 (l0.length : Int) 0)) else (some ((⟨#[]⟩ : ByteArray), 2))) = some (r1, r2) := H
 have A2 := Aside0.mk A20
 clear A20
 by_cases c3 : t143 = true
 · subst c3
   have H1 : (if (l0.length : Int) = 0 then (some ((⟨#[45]⟩ : ByteArray), 0)) else (span_Text.l0 k ([] : List ByteArray) l0 (l0.length : Int) 0)) = some (r1, r2) := by rw [if_pos rfl] at H; exact H
   clear H
   have H := H1
   clear H1
   by_cases c4 : (l0.length : Int) = 0
   · rw [if_pos c4] at H
     have c4b0 : ((l0.length : Int) == 0) = true := beq_iff_eq.mpr c4
     have c4b1 : ((l0.length : Int) != 0) = false := bne_eq_false_iff_eq.mpr c4
     clear c4
     simp only [Option.some.injEq, Prod.mk.injEq] at H
     obtain ⟨rfl, rfl⟩ := H
     go_enter Tryz.func7, Tryz.ntmps7
     go_wp2_with (first | ((with_reducible refine gate_callee (f := 22) rfl ?_); refine goesL_ (some 8) rfl rfl Tryz.func22 (by kernel_rfl) rfl #[.slice A0 l0.length c0] rfl (by (try simp only [List.map_toArray, List.map_cons, List.map_nil]); first | done | rfl | (simp only [List.length_drop, List.length_take]; rfl)) ?_; (with_reducible refine (span_Valid.calls k _ _ l0 true _ ?side1 ?side2 A2.out).mono ?_); (case side1 => repeat (first | exact HR0.out | (with_reducible refine Kd.C_alloc ?_ _) | (with_reducible refine Kd.C_drewN ?_ _) | (with_reducible refine Kd.C_drew ?_))); (case side2 => exact HC0.out); rintro e w5 ⟨rfl, hb⟩; refine ⟨_, rfl, ?_⟩; have n0_ := Aside0.mk (below_step (by repeat (first | (with_reducible first | exact HB.out | apply below_alloc | apply pw_below_drewN | apply below_drew1) | exact HB.out)) hb); clear HB; have HB := n0_; clear n0_; (try clear hb); (try clear hb2); (try clear hk); (try clear hi)))
     go_ret2
     exact ⟨by first | rfl | (simp [errW_none, errW_some] <;> rfl) | (simp [*, errW_none, errW_some] <;> rfl), by repeat (first | (with_reducible first | exact HB.out | apply below_alloc | apply pw_below_drewN | apply below_drew1) | exact HB.out)⟩
   · rw [if_neg c4] at H
     have c4b0 : ((l0.length : Int) == 0) = false := beq_eq_false_iff_ne.mpr c4
     have c4b1 : ((l0.length : Int) != 0) = true := bne_iff_ne.mpr c4
     have c4b2 : ¬ (l0 = []) := fun h_ => c4 (by rw [h_]; rfl)
     have H' := Aside0.mk H
     clear H
     go_enter Tryz.func7, Tryz.ntmps7
     go_wp2_with (first | ((with_reducible refine gate_callee (f := 22) rfl ?_); refine goesL_ (some 8) rfl rfl Tryz.func22 (by kernel_rfl) rfl #[.slice A0 l0.length c0] rfl (by (try simp only [List.map_toArray, List.map_cons, List.map_nil]); first | done | rfl | (simp only [List.length_drop, List.length_take]; rfl)) ?_; (with_reducible refine (span_Valid.calls k _ _ l0 true _ ?side1 ?side2 A2.out).mono ?_); (case side1 => repeat (first | exact HR0.out | (with_reducible refine Kd.C_alloc ?_ _) | (with_reducible refine Kd.C_drewN ?_ _) | (with_reducible refine Kd.C_drew ?_))); (case side2 => exact HC0.out); rintro e w6 ⟨rfl, hb⟩; refine ⟨_, rfl, ?_⟩; have n0_ := Aside0.mk (below_step (by repeat (first | (with_reducible first | exact HB.out | apply below_alloc | apply pw_below_drewN | apply below_drew1) | exact HB.out)) hb); clear HB; have HB := n0_; clear n0_; (try clear hb); (try clear hb2); (try clear hk); (try clear hi)))
     go_loopg [4, 15] k (fun kq v4 v15 w' => ∃ (x4_1 : List ByteArray) (x15_1 : Int), v15 = .int .i64 x15_1 ∧ Aside0 (span_Text.l0 kq x4_1 l0 (l0.length : Int) x15_1 = some (r1, r2)) ∧ Aside0 (kq ≤ k) ∧ Aside0 (Kd.R Kd.string 9 w' w.heap.size (fun _ => True) v4 x4_1) ∧ Aside0 (Below w.heap.size w w'))
     case atStart => exact ⟨(([] : List ByteArray)), (0), (by first | rfl | (simp; done) | (simp [*]; done)), H', ⟨Nat.le_refl _⟩, ⟨by first | exact Kd.R_nil _ _ _ _ _ | exact Kd.N_nil _ _ _ _ _ | exact Kd.V_nil _ _ _ _ _ | exact Kd.Q_nil _ _ _ _ _ | exact Kd.S_nil _ _ _ _ _⟩, ⟨by repeat (first | (with_reducible first | exact HB.out | apply below_alloc | apply pw_below_drewN | apply below_drew1) | exact HB.out)⟩⟩
     case round =>
      clear H'
      try clear c2
      try clear p2
      try clear c3
      try clear c4
      try clear c4b0
      try clear c4b1
      try clear c4b2
      obtain ⟨x4_1, x15_1, rfl, HA, HK1, HO_4, HB⟩ := hrel
      cases gk with
      | zero => exact absurd HA.out (by simp [span_Text.l0])
      | succ k1 =>
       have H := HA.out
       clear HA
       simp only [span_Text.l0] at H
       by_cases c7 : x15_1 < (l0.length : Int)
       · rw [if_pos c7] at H
         have c7b0 : decide (x15_1 < (l0.length : Int)) = true := decide_eq_true c7
         clear c7
         by_cases c8 : 0 ≤ x15_1
         · rw [if_pos c8] at H
           have c8b0 : decide (0 ≤ x15_1) = true := decide_eq_true c8
           clear c8
           by_cases c9 : x15_1 < (l0.length : Int)
           · rw [if_pos c9] at H
             have c9b0 : decide (x15_1 < (l0.length : Int)) = true := decide_eq_true c9
             clear c9
             replace H := Option.bind_eq_some_iff.mp H
             obtain ⟨t146, A100, H⟩ := H
             replace H : (if t146.size + 2 ≤ 9223372036854775807 then ((strconv_Itoa.f ((rd_T41 l0 x15_1).f1)).bind fun t147 => (if (t146 ++ (⟨#[46, 46]⟩ : ByteArray)).size + t147.size ≤ 9223372036854775807 then (if x4_1.length < 8796093022208 then (span_Text.l0 k1 (x4_1 ++ [(t146 ++ (⟨#[46, 46]⟩ : ByteArray)) ++ t147]) l0 (l0.length : Int) (wrap64 (x15_1 + 1))) else (none)) else (none))) else (none)) = some (r1, r2) := H
             have A10 := Aside0.mk A100
             clear A100
             by_cases c11 : t146.size + 2 ≤ 9223372036854775807
             · rw [if_pos c11] at H
               have c11b0 := eq_true c11
               have c11b1 : decide (t146.size + 2 ≤ 9223372036854775807) = true := decide_eq_true c11
               try have c11b2 : (9223372036854775807 < t146.size + 2) = False := eq_false (Nat.not_lt.2 c11)
               replace H := Option.bind_eq_some_iff.mp H
               obtain ⟨t147, A120, H⟩ := H
               replace H : (if (t146 ++ (⟨#[46, 46]⟩ : ByteArray)).size + t147.size ≤ 9223372036854775807 then (if x4_1.length < 8796093022208 then (span_Text.l0 k1 (x4_1 ++ [(t146 ++ (⟨#[46, 46]⟩ : ByteArray)) ++ t147]) l0 (l0.length : Int) (wrap64 (x15_1 + 1))) else (none)) else (none)) = some (r1, r2) := H
               have A12 := Aside0.mk A120
               clear A120
               by_cases c13 : (t146 ++ (⟨#[46, 46]⟩ : ByteArray)).size + t147.size ≤ 9223372036854775807
               · rw [if_pos c13] at H
                 have c13b0 := eq_true c13
                 have c13n : t146.size + 2 + t147.size ≤ 9223372036854775807 := by have h_ := c13; rw [ByteArray.size_append] at h_; exact h_
                 have c13d : (9223372036854775807 < t146.size + 2 + t147.size) = False := eq_false (Nat.not_lt.2 c13n)
                 have c13b1 : decide ((t146 ++ (⟨#[46, 46]⟩ : ByteArray)).size + t147.size ≤ 9223372036854775807) = true := decide_eq_true c13
                 try have c13b2 : (9223372036854775807 < (t146 ++ (⟨#[46, 46]⟩ : ByteArray)).size + t147.size) = False := eq_false (Nat.not_lt.2 c13)
                 by_cases c14 : x4_1.length < 8796093022208
                 · rw [if_pos c14] at H
                   have LMc14 := Aside0.mk c14
                   clear c14
                   obtain ⟨y148, hy148⟩ : ∃ y_ : List ByteArray, y_ = (x4_1 ++ [(t146 ++ (⟨#[46, 46]⟩ : ByteArray)) ++ t147]) := ⟨_, rfl⟩
                   replace H : (span_Text.l0 k1 y148 l0 (l0.length : Int) (wrap64 (x15_1 + 1))) = some (r1, r2) := by first | (rw [hy148]; with_reducible exact H) | (have H2_ := (Option.bind_some _ _).symm.trans H; rw [hy148]; with_reducible exact H2_) | (have H2_ := (Option.bind_some _ _).symm.trans H; with_reducible exact H2_) | with_reducible exact H | (rw [hy148]; exact H) | exact H
                   have Ny148 := Aside0.mk hy148
                   clear hy148
                   have H' := Aside0.mk H
                   clear H
                   have p144 : 0 ≤ (x15_1 : Int) := of_decide_eq_true (by first | (with_reducible assumption) | assumption)
                   have q144 : x15_1 < (l0.length : Int) := of_decide_eq_true (by first | (with_reducible assumption) | assumption)
                   obtain ⟨ad144, e144, hx144_0, hx144_1⟩ := at_T41 HR0.out x15_1 p144 q144
                   cases e144
                   replace hx144_0 := (HB.out.cell (World.block_lt_of_cell? w _ hx144_0)).trans hx144_0
                   replace hx144_1 := (HB.out.cell (World.block_lt_of_cell? w _ hx144_1)).trans hx144_1
                   replace p144 := eq_true p144
                   replace q144 := eq_true q144
                   try go_wp2_with (first | ((with_reducible refine gate_dst (N := 6) rfl ?_); refine box_event ?hg (N := 6) ?hd (cs := #[.int .i64 0, .int .i64 0]) (t := 41) ?hr ?_; (case hd => rfl); (case hg => rfl); (case hr => first | (go_simp; done) | (go_simp; rfl)); intro gb145 hg w15 hbox hb; have n0_ := Aside0.mk (Kd.R_below (by (with_reducible repeat (first | apply Kd.R_alloc | apply Kd.R_drewN | apply Kd.R_drew)); exact HO_4.out) hb); have n1_ := Aside0.mk (below_step (by repeat (first | (with_reducible first | exact HB.out | apply below_alloc | apply pw_below_drewN | apply below_drew1) | exact HB.out)) hb); have n2_ := Aside0.mk (hbox); have n3_ := Aside0.mk ((by rw [hg]; exact (below_size (by repeat (first | (with_reducible first | exact HB.out | apply below_alloc | apply pw_below_drewN | apply below_drew1) | exact HB.out))) : w.heap.size ≤ gb145)); have n4_ := Aside0.mk ((by rw [hg]; exact (below_size (by repeat (first | (with_reducible first | exact HB.out | apply below_alloc | apply pw_below_drewN | apply below_drew1) | exact HB.out))) : w.heap.size ≤ gb145)); clear HO_4; clear HB; have HO_4 := n0_; have HB := n1_; have BK145 := n2_; have GW145 := n3_; have GE145 := n4_; clear n0_ n1_ n2_ n3_ n4_; clear hb hbox hg; have hcz16_0 : w15.cell? ⟨gb145, 0, none⟩ = some (.int .i64 0) := (blk_cell BK145.out 0).trans rfl; have hcz16_1 : w15.cell? ⟨gb145, 1, none⟩ = some (.int .i64 0) := (blk_cell BK145.out 1).trans rfl; have hfz16_0 := blk_frozen BK145.out 0; have hfz16_1 := blk_frozen BK145.out 1))
                   have n0_ : Aside0 (Kd.R Kd.string 9 ((w15.setCell ⟨gb145, 0, none⟩ (.int .i64 ((rd_T41 l0 x15_1).f0))).setCell ⟨gb145, 1, none⟩ (.int .i64 ((rd_T41 l0 x15_1).f1))) w.heap.size (fun _ => True) u4 x4_1) := ⟨by (with_reducible repeat (first | apply Kd.R_alloc | apply Kd.R_drewN | apply Kd.R_drew)); exact Kd.R_mono (Kd.R_far (p := ⟨gb145, 1, none⟩) (Kd.R_far (p := ⟨gb145, 0, none⟩) (Kd.R_types HO_4.out BK145.out (by decide)) (fun _ hk => hk.2) (.int .i64 ((rd_T41 l0 x15_1).f0))) (fun _ hk => hk.2) (.int .i64 ((rd_T41 l0 x15_1).f1))) (fun _ hk => trivial)⟩
                   have n1_ : Aside0 (((w15.setCell ⟨gb145, 0, none⟩ (.int .i64 ((rd_T41 l0 x15_1).f0))).setCell ⟨gb145, 1, none⟩ (.int .i64 ((rd_T41 l0 x15_1).f1))).heap[gb145]? = some (.cells #[.int .i64 ((rd_T41 l0 x15_1).f0), .int .i64 ((rd_T41 l0 x15_1).f1)] 41 (0, 0))) := ⟨by (with_reducible repeat (first | refine blk_drewN ?_ _ | refine blk_drew ?_ | refine blk_alloc ?_ _)); refine blk_put (cs := #[.int .i64 ((rd_T41 l0 x15_1).f0), .int .i64 0]) ?_ 1 _ rfl; (with_reducible repeat (first | refine blk_drewN ?_ _ | refine blk_drew ?_ | refine blk_alloc ?_ _)); refine blk_put (cs := #[.int .i64 0, .int .i64 0]) ?_ 0 _ rfl; (with_reducible repeat (first | refine blk_drewN ?_ _ | refine blk_drew ?_ | refine blk_alloc ?_ _)); exact BK145.out⟩
                   have n2_ : Aside0 (Below w.heap.size w ((w15.setCell ⟨gb145, 0, none⟩ (.int .i64 ((rd_T41 l0 x15_1).f0))).setCell ⟨gb145, 1, none⟩ (.int .i64 ((rd_T41 l0 x15_1).f1)))) := ⟨by repeat (first | (with_reducible first | exact HB.out | apply below_alloc | apply pw_below_drewN | apply below_drew1 | refine below_set ?_ GE145.out) | exact HB.out)⟩
                   (try clear HO_4)
                   (try clear BK145)
                   (try clear HB)
                   generalize ((w15.setCell ⟨gb145, 0, none⟩ (.int .i64 ((rd_T41 l0 x15_1).f0))).setCell ⟨gb145, 1, none⟩ (.int .i64 ((rd_T41 l0 x15_1).f1))) = w17 at n0_ n1_ n2_ ⊢
                   have HO_4 := n0_
                   have BK145 := n1_
                   have HB := n2_
                   clear n0_ n1_ n2_
                   have n0_ := Aside0.mk (Kd.R_drew HO_4.out)
                   have n1_ := Aside0.mk (blk_drew BK145.out)
                   have n2_ := Aside0.mk (below_drew1 HB.out)
                   clear HO_4
                   clear BK145
                   clear HB
                   have HO_4 := n0_
                   have BK145 := n1_
                   have HB := n2_
                   clear n0_ n1_ n2_
                   refine start_ (n := 12) (S := fun w' => w'.cell? ⟨gb145, 0, none⟩ = some (.int .i64 ((rd_T41 l0 x15_1).f0)) ∧ w'.cell? ⟨gb145, 1, none⟩ = some (.int .i64 ((rd_T41 l0 x15_1).f1))) (ds := []) #[false, false, false, false, false, false, false, false, false, false, false, false] (by kernel_rfl) rfl rfl ⟨(blk_cell BK145.out 0).trans rfl, (blk_cell BK145.out 1).trans rfl⟩ (fun hHeld => ?_); refine with_tabW span_Text.tab9 span_Text.bits9 (fun HT_ HW_ => ?_)
                   generalize w17.drew = w18 at HO_4 BK145 HB hHeld ⊢
                   refine pure_ (i := 0) (N := some 19) (v := ?_) (a' := ?_) #[true, false, false, false, false, false, false, false, false, false, false, false] rfl rfl (any_of HT_.out (by kernel_rfl)) (fun _ _ _ h => h) (Or.inl ⟨by rfl, ?_⟩) ?_ ?_
                   rotate_left
                   · intro w'
                     go_simp
                     with_reducible rfl
                   rotate_left
                   · simp only [Act.put, List.setIfInBounds_toArray, List.set_cons_zero, List.set_cons_succ, i64_w, i32_w]
                     rfl
                   refine pure_ (i := 1) (N := some 20) (v := ?_) (a' := ?_) #[true, true, false, false, false, false, false, false, false, false, false, false] rfl rfl (any_of HT_.out (by kernel_rfl)) (fun _ _ _ h => h) (Or.inl ⟨by rfl, ?_⟩) ?_ ?_
                   rotate_left
                   · intro w'
                     go_simp
                     with_reducible rfl
                   rotate_left
                   · simp only [Act.put, List.setIfInBounds_toArray, List.set_cons_zero, List.set_cons_succ, i64_w, i32_w]
                     rfl
                   refine pure_ (i := 5) (N := some 24) (v := ?_) (a' := ?_) #[true, true, false, false, false, true, false, false, false, false, false, false] rfl rfl (any_of HT_.out (by kernel_rfl)) (fun _ _ _ h => h) (Or.inl ⟨by rfl, ?_⟩) ?_ ?_
                   rotate_left
                   · intro w'
                     go_simp
                     with_reducible rfl
                   rotate_left
                   · simp only [Act.put, List.setIfInBounds_toArray, List.set_cons_zero, List.set_cons_succ, i64_w, i32_w]
                     rfl
                   refine take_ (i := 2) (N := some 21) (v := ?_) (a' := ?_) #[true, true, true, false, false, true, false, false, false, false, false, false] rfl rfl (take_ofW HT_.out HW_.out (by kernel_rfl)) (fun _ _ _ h => h) (Or.inl ⟨by rfl, ?_⟩) hHeld ?_ ?_
                   rotate_left
                   · rintro w' ⟨s0, s1⟩
                     go_simp
                     with_reducible rfl
                   rotate_left
                   · simp only [Act.put, List.setIfInBounds_toArray, List.set_cons_zero, List.set_cons_succ, i64_w, i32_w]
                     rfl
                   refine take_ (i := 6) (N := some 25) (v := ?_) (a' := ?_) #[true, true, true, false, false, true, true, false, false, false, false, false] rfl rfl (take_ofW HT_.out HW_.out (by kernel_rfl)) (fun _ _ _ h => h) (Or.inl ⟨by rfl, ?_⟩) hHeld ?_ ?_
                   rotate_left
                   · rintro w' ⟨s0, s1⟩
                     go_simp
                     with_reducible rfl
                   rotate_left
                   · simp only [Act.put, List.setIfInBounds_toArray, List.set_cons_zero, List.set_cons_succ, i64_w, i32_w]
                     rfl
                   refine one_ (i := 3) (N := some 22) #[true, true, true, true, false, true, true, false, false, false, false, false] rfl rfl (one_of HT_.out (by kernel_rfl)) (by decide) (fun K hK => ?_)
                   refine goes_ Tryz.func23 (by kernel_rfl) rfl #[.int .i64 ((rd_T41 l0 x15_1).f0)] (by rfl) rfl rfl (by (try simp only [List.map_toArray, List.map_cons, List.map_nil]); first | done | rfl | (simp only [List.length_drop, List.length_take]; rfl)) ?_
                   with_reducible refine (strconv_Itoa.calls ((rd_T41 l0 x15_1).f0) t146 _ A10.out).mono ?_
                   rintro e w19 ⟨rfl, hb⟩
                   refine ⟨_, rfl, ?_⟩
                   have n0_ := Aside0.mk (Kd.R_below (by (with_reducible repeat (first | apply Kd.R_alloc | apply Kd.R_drewN | apply Kd.R_drew)); exact HO_4.out) hb)
                   have n1_ := Aside0.mk (blk_below (g := gb145) (o := .cells #[.int .i64 ((rd_T41 l0 x15_1).f0), .int .i64 ((rd_T41 l0 x15_1).f1)] 41 (0, 0)) (by (with_reducible repeat (first | refine blk_drewN ?_ _ | refine blk_drew ?_ | refine blk_alloc ?_ _)); exact BK145.out) hb)
                   have n2_ := Aside0.mk (below_step (by repeat (first | (with_reducible first | exact HB.out | apply below_alloc | apply pw_below_drewN | apply below_drew1 | refine below_set ?_ GE145.out) | exact HB.out)) hb)
                   clear HO_4
                   clear BK145
                   clear HB
                   have HO_4 := n0_
                   have BK145 := n1_
                   have HB := n2_
                   clear n0_ n1_ n2_
                   (try clear hb)
                   (try clear hb2)
                   (try clear hk)
                   (try clear hi)
                   refine hK.out _ _ ⟨(blk_cell BK145.out 0).trans rfl, (blk_cell BK145.out 1).trans rfl⟩ (fun hHeld => ?_)
                   clear hK K
                   refine norm_ (a' := ?_) ?_ ?_
                   rotate_left
                   · show Act.put _ (some 22) _ = _
                     simp only [Act.put, List.setIfInBounds_toArray, List.set_cons_zero, List.set_cons_succ, i64_w, i32_w]
                     rfl
                   refine pure_ (i := 4) (N := some 23) (v := ?_) (a' := ?_) #[true, true, true, true, true, true, true, false, false, false, false, false] rfl rfl (any_of HT_.out (by kernel_rfl)) (fun _ _ _ h => h) (Or.inl ⟨by rfl, ?_⟩) ?_ ?_
                   rotate_left
                   · intro w'
                     go_simp
                     with_reducible rfl
                   rotate_left
                   · simp only [Act.put, List.setIfInBounds_toArray, List.set_cons_zero, List.set_cons_succ, i64_w, i32_w]
                     rfl
                   refine one_ (i := 7) (N := some 26) #[true, true, true, true, true, true, true, true, false, false, false, false] rfl rfl (one_of HT_.out (by kernel_rfl)) (by decide) (fun K hK => ?_)
                   refine goes_ Tryz.func23 (by kernel_rfl) rfl #[.int .i64 ((rd_T41 l0 x15_1).f1)] (by rfl) rfl rfl (by (try simp only [List.map_toArray, List.map_cons, List.map_nil]); first | done | rfl | (simp only [List.length_drop, List.length_take]; rfl)) ?_
                   with_reducible refine (strconv_Itoa.calls ((rd_T41 l0 x15_1).f1) t147 _ A12.out).mono ?_
                   rintro e w20 ⟨rfl, hb⟩
                   refine ⟨_, rfl, ?_⟩
                   have n0_ := Aside0.mk (Kd.R_below (by (with_reducible repeat (first | apply Kd.R_alloc | apply Kd.R_drewN | apply Kd.R_drew)); exact HO_4.out) hb)
                   have n1_ := Aside0.mk (blk_below (g := gb145) (o := .cells #[.int .i64 ((rd_T41 l0 x15_1).f0), .int .i64 ((rd_T41 l0 x15_1).f1)] 41 (0, 0)) (by (with_reducible repeat (first | refine blk_drewN ?_ _ | refine blk_drew ?_ | refine blk_alloc ?_ _)); exact BK145.out) hb)
                   have n2_ := Aside0.mk (below_step (by repeat (first | (with_reducible first | exact HB.out | apply below_alloc | apply pw_below_drewN | apply below_drew1 | refine below_set ?_ GE145.out) | exact HB.out)) hb)
                   clear HO_4
                   clear BK145
                   clear HB
                   have HO_4 := n0_
                   have BK145 := n1_
                   have HB := n2_
                   clear n0_ n1_ n2_
                   (try clear hb)
                   (try clear hb2)
                   (try clear hk)
                   (try clear hi)
                   refine hK.out _ _ ⟨(blk_cell BK145.out 0).trans rfl, (blk_cell BK145.out 1).trans rfl⟩ (fun hHeld => ?_)
                   clear hK K
                   refine norm_ (a' := ?_) ?_ ?_
                   rotate_left
                   · show Act.put _ (some 26) _ = _
                     simp only [Act.put, List.setIfInBounds_toArray, List.set_cons_zero, List.set_cons_succ, i64_w, i32_w]
                     rfl
                   refine pure_ (i := 8) (N := some 27) (v := ?_) (a' := ?_) #[true, true, true, true, true, true, true, true, true, false, false, false] rfl rfl (any_of HT_.out (by kernel_rfl)) (fun _ _ _ h => h) (Or.inl ⟨by rfl, ?_⟩) ?_ ?_
                   rotate_left
                   · intro w'
                     go_simp
                     with_reducible rfl
                   rotate_left
                   · simp only [Act.put, List.setIfInBounds_toArray, List.set_cons_zero, List.set_cons_succ, i64_w, i32_w]
                     rfl
                   refine one_ (i := 9) (N := some 28) #[true, true, true, true, true, true, true, true, true, true, false, false] rfl rfl (one_of HT_.out (by kernel_rfl)) (by decide) (fun K hK => ?_)
                   refine value_ (w1 := ?_) (v := ?_) (by rfl) rfl ?_ ?_
                   rotate_left 2
                   · go_simp
                     constructor
                     · rfl
                     · rfl
                   refine hK.out _ _ ⟨(blk_cell (blk_alloc BK145.out _) 0).trans rfl, (blk_cell (blk_alloc BK145.out _) 1).trans rfl⟩ (fun hHeld => ?_)
                   clear hK K
                   refine norm_ (a' := ?_) ?_ ?_
                   rotate_left
                   · show Act.put _ (some 28) _ = _
                     simp only [Act.put, List.setIfInBounds_toArray, List.set_cons_zero, List.set_cons_succ, i64_w, i32_w]
                     rfl
                   refine one_ (i := 10) (N := some 29) #[true, true, true, true, true, true, true, true, true, true, true, false] rfl rfl (one_of HT_.out (by kernel_rfl)) (by decide) (fun K hK => ?_)
                   refine Kd.R_append_step Kd.string (w0 := w) w.heap.size (by rfl) (.tmp 19) (.tmp 28) 46 9 (.string ⟨#[]⟩) 16 rfl Tryz.underlying46 info9 rfl (by decide) (by omega) u4 x4_1 ((t146 ++ (⟨#[46, 46]⟩ : ByteArray)) ++ t147) [.string ((t146 ++ (⟨#[46, 46]⟩ : ByteArray)) ++ t147)] (fun _ => True) (fun _ => False) rfl rfl ?aP (fun _ hk => hk.elim) ?aF ?aO ?aB ?aS ?aL ?_
                   (case aP => exact rfl)
                   (case aB => exact (by repeat (first | (with_reducible first | exact HB.out | apply below_alloc | apply pw_below_drewN | apply below_drew1 | refine below_set ?_ GE145.out) | exact HB.out)))
                   (case aF => exact (fun _ _ => trivial))
                   (case aO => exact (by (with_reducible repeat (first | apply Kd.R_alloc | apply Kd.R_drewN | apply Kd.R_drew)); exact HO_4.out))
                   (case aS => exact (below_size (by repeat (first | (with_reducible first | exact HB.out | apply below_alloc | apply pw_below_drewN | apply below_drew1 | refine below_set ?_ GE145.out) | exact HB.out))))
                   (case aL => have := LMc14.out; omega)
                   intro v149 w21 ho hb hg hat
                   rw [← Ny148.out] at ho
                   have n0_ := Aside0.mk (blk_grown (g := gb145) (o := .cells #[.int .i64 ((rd_T41 l0 x15_1).f0), .int .i64 ((rd_T41 l0 x15_1).f1)] 41 (0, 0)) (by (with_reducible repeat (first | refine blk_drewN ?_ _ | refine blk_drew ?_ | refine blk_alloc ?_ _)); exact BK145.out) hg (Kd.R_ne HO_4.out BK145.out (by decide)))
                   have n1_ := Aside0.mk (hb)
                   have n2_ := Aside0.mk (ho)
                   clear BK145
                   clear HB
                   clear HO_4
                   have BK145 := n0_
                   have HB := n1_
                   have HO150 := n2_
                   clear n0_ n1_ n2_
                   clear ho hb hg hat
                   refine hK.out _ _ ⟨(blk_cell BK145.out 0).trans rfl, (blk_cell BK145.out 1).trans rfl⟩ (fun hHeld => ?_)
                   clear hK K
                   refine norm_ (a' := ?_) ?_ ?_
                   rotate_left
                   · show Act.put _ (some 29) _ = _
                     simp only [Act.put, List.setIfInBounds_toArray, List.set_cons_zero, List.set_cons_succ, i64_w, i32_w]
                     rfl
                   refine pure_ (i := 11) (N := some 4) (v := ?_) (a' := ?_) #[true, true, true, true, true, true, true, true, true, true, true, true] rfl rfl (any_of HT_.out (by kernel_rfl)) (fun _ _ _ h => h) (Or.inl ⟨by rfl, ?_⟩) ?_ ?_
                   rotate_left
                   · intro w'
                     go_simp
                     with_reducible rfl
                   rotate_left
                   · simp only [Act.put, List.setIfInBounds_toArray, List.set_cons_zero, List.set_cons_succ, i64_w, i32_w]
                     rfl
                   refine done_ (done_of HT_.out (by kernel_rfl)) ?_
                   try go_wp2
                   go_roundg k1
                   case measure => have := HK1.out; omega
                   case rel => exact ⟨(y148), (wrap64 (x15_1 + 1)), (by first | rfl | (simp; done) | (simp [*]; done)), H', ⟨by have := HK1.out; omega⟩, ⟨by (with_reducible repeat (first | apply Kd.R_alloc | apply Kd.R_drewN | apply Kd.R_drew)); exact HO150.out⟩, ⟨by repeat (first | (with_reducible first | exact HB.out | apply below_alloc | apply pw_below_drewN | apply below_drew1 | refine below_set ?_ GE145.out) | exact HB.out)⟩⟩
                 · rw [if_neg c14] at H
                   exact absurd H (by simp)
               · rw [if_neg c13] at H
                 exact absurd H (by simp)
             · rw [if_neg c11] at H
               exact absurd H (by simp)
           · rw [if_neg c9] at H
             exact absurd H (by simp)
         · rw [if_neg c8] at H
           exact absurd H (by simp)
       · rw [if_neg c7] at H
         have c7b0 : decide (x15_1 < (l0.length : Int)) = false := decide_eq_false c7
         clear c7
         replace H := Option.bind_eq_some_iff.mp H
         obtain ⟨t151, A220, H⟩ := H
         replace H : (some (t151, 0)) = some (r1, r2) := H
         have A22 := Aside0.mk A220
         clear A220
         simp only [Option.some.injEq, Prod.mk.injEq] at H
         obtain ⟨rfl, rfl⟩ := H
         obtain ⟨Ao23, co23, eo23⟩ := Kd.R_slice HO_4.out
         subst eo23
         go_wp2_with (first | ((with_reducible refine gate_callee (f := 24) rfl ?_); refine goesL_ (some 32) rfl rfl Tryz.func24 (by kernel_rfl) rfl #[.slice Ao23 x4_1.length co23, .string (⟨#[32]⟩ : ByteArray)] rfl (by (try simp only [List.map_toArray, List.map_cons, List.map_nil]); first | done | rfl | (simp only [List.length_drop, List.length_take]; rfl)) ?_; (with_reducible refine (strings_Join.calls _ _ x4_1 (⟨#[32]⟩ : ByteArray) t151 _ ?side1 ?side2 A22.out).mono ?_); (case side1 => repeat (first | exact (Kd.R_reads' HO_4.out).2.2 | (with_reducible refine Kd.C_alloc ?_ _) | (with_reducible refine Kd.C_drewN ?_ _) | (with_reducible refine Kd.C_drew ?_))); (case side2 => exact (Kd.R_reads' HO_4.out).2.1); rintro e w24 ⟨rfl, hb⟩; refine ⟨_, rfl, ?_⟩; have n0_ := Aside0.mk (Kd.R_below (by (with_reducible repeat (first | apply Kd.R_alloc | apply Kd.R_drewN | apply Kd.R_drew)); exact HO_4.out) hb); have n1_ := Aside0.mk (below_step (by repeat (first | (with_reducible first | exact HB.out | apply below_alloc | apply pw_below_drewN | apply below_drew1) | exact HB.out)) hb); clear HO_4; clear HB; have HO_4 := n0_; have HB := n1_; clear n0_ n1_; (try clear hb); (try clear hb2); (try clear hk); (try clear hi)))
         go_ret2
         exact ⟨by first | rfl | (simp [errW_none, errW_some] <;> rfl) | (simp [*, errW_none, errW_some] <;> rfl), by repeat (first | (with_reducible first | exact HB.out | apply below_alloc | apply pw_below_drewN | apply below_drew1) | exact HB.out)⟩
 · replace c3 := Bool.eq_false_iff.mpr c3
   subst c3
   have H1 : (some ((⟨#[]⟩ : ByteArray), 2)) = some (r1, r2) := by rw [if_neg (show ¬ (false = true) by decide)] at H; exact H
   clear H
   have H := H1
   clear H1
   simp only [Option.some.injEq, Prod.mk.injEq] at H
   obtain ⟨rfl, rfl⟩ := H
   go_enter Tryz.func7, Tryz.ntmps7
   go_wp2_with (first | ((with_reducible refine gate_callee (f := 22) rfl ?_); refine goesL_ (some 8) rfl rfl Tryz.func22 (by kernel_rfl) rfl #[.slice A0 l0.length c0] rfl (by (try simp only [List.map_toArray, List.map_cons, List.map_nil]); first | done | rfl | (simp only [List.length_drop, List.length_take]; rfl)) ?_; (with_reducible refine (span_Valid.calls k _ _ l0 false _ ?side1 ?side2 A2.out).mono ?_); (case side1 => repeat (first | exact HR0.out | (with_reducible refine Kd.C_alloc ?_ _) | (with_reducible refine Kd.C_drewN ?_ _) | (with_reducible refine Kd.C_drew ?_))); (case side2 => exact HC0.out); rintro e w25 ⟨rfl, hb⟩; refine ⟨_, rfl, ?_⟩; have n0_ := Aside0.mk (below_step (by repeat (first | (with_reducible first | exact HB.out | apply below_alloc | apply pw_below_drewN | apply below_drew1) | exact HB.out)) hb); clear HB; have HB := n0_; clear n0_; (try clear hb); (try clear hb2); (try clear hk); (try clear hi)))
   go_ret2
   exact ⟨by first | rfl | (simp [errW_none, errW_some] <;> rfl) | (simp [*, errW_none, errW_some] <;> rfl), by repeat (first | (with_reducible first | exact HB.out | apply below_alloc | apply pw_below_drewN | apply below_drew1) | exact HB.out)⟩
end Go.Proofs.YtmomcbhgggggnaaGreatDoor.Pr
end
section
namespace Go.Proofs.YtmomcbhgggggnaaGreatDoor.Pr
open Go.RowKit Go.Lib Go.Proofs.YtmomcbhgggggnaaGreatDoorW.PrintWords Go.Proofs.YtmomcbhgggggnaaGreatDoorW.PrintLast Go.Proofs.YtmomcbhgggggnaaGreatDoorW.PrintMore
set_option linter.unusedVariables false
set_option linter.unusedSimpArgs false
def spanB (p : S41) : List UInt8 := itoa p.f0 ++ 46 :: 46 :: itoa p.f1
def textB (a : List S41) : List UInt8 := if a = [] then [45] else join (a.map spanB) [32]
def textR (a : List S41) : ByteArray × Int := if validS a = true then (bts (textB a), 0) else (bts [], 2)
theorem join_snoc (w : List UInt8) : ∀ l : List (List UInt8), l ≠ [] → join (l ++ [w]) [32] = join l [32] ++ 32 :: w
  | [], h => absurd rfl h
  | [x], _ => by
    rw [List.cons_append, List.nil_append, join_two, join_one, join_one]
    rfl
  | x :: y :: t, _ => by
    have ih := join_snoc w (y :: t) (by simp)
    rw [List.cons_append, List.cons_append, join_two, join_two, ← List.cons_append, ih, List.append_assoc, List.append_assoc]
def joinTo (a : List S41) (i : Nat) : List UInt8 := join ((a.take i).map spanB) [32]
theorem take_snocS (a : List S41) (i : Nat) (h : i < a.length) : a.take (i + 1) = a.take i ++ [a.getD i z41] := by
  rw [List.take_add_one, List.getD_eq_getElem?_getD, List.getElem?_eq_getElem h]
  rfl
theorem joinTo_succ (a : List S41) (i : Nat) (h : i < a.length) : joinTo a (i + 1) = if i = 0 then spanB (a.getD i z41) else joinTo a i ++ 32 :: spanB (a.getD i z41) := by
  unfold joinTo
  rw [take_snocS a i h, List.map_append]
  by_cases h0 : i = 0
  · subst h0
    rw [if_pos rfl, List.take_zero, List.map_nil, List.nil_append]
    exact join_one _ _
  · rw [if_neg h0]
    exact join_snoc _ _ (by
      intro e
      have := congrArg List.length e
      rw [List.length_map, List.length_take, List.length_nil] at this
      omega)
theorem good_range {p : S41} (h : goodS p = true) : (-1099511627776 ≤ p.f0 ∧ p.f0 ≤ 1099511627776) ∧ (-1099511627776 ≤ p.f1 ∧ p.f1 ≤ 1099511627776) := by
  have := (goodS_iff p).1 h
  omega
theorem span_len {p : S41} (h : goodS p = true) : (spanB p).length ≤ 44 := by
  obtain ⟨⟨a1, a2⟩, b1, b2⟩ := good_range h
  have h1 := itoa_length_le p.f0 (by omega) (by omega)
  have h2 := itoa_length_le p.f1 (by omega) (by omega)
  unfold spanB
  rw [List.length_append, List.length_cons, List.length_cons]
  omega
theorem joinTo_len {a : List S41} (h : validS a = true) : ∀ i, i ≤ a.length → (joinTo a i).length ≤ 45 * i
  | 0, _ => by simp [joinTo, join, List.intercalate]
  | i + 1, hi => by
    have ih := joinTo_len h i (by omega)
    have hs := span_len ((valid_good h).2 i (by omega))
    rw [joinTo_succ a i (by omega)]
    split
    · omega
    · rw [List.length_append, List.length_cons]
      omega
theorem rdS (a : List S41) (i : Nat) : rd_T41 a (i : Int) = a.getD i z41 := by unfold rd_T41; rw [Int.toNat_natCast]
theorem text_loop {a : List S41} (h : validS a = true) : ∀ d i : Nat, i + d = a.length → Ev (fun k => span_Text.l0 k ((a.take i).map fun p => bts (spanB p)) a (a.length : Int) (i : Int)) (bts (joinTo a a.length), 0)
  | 0, i, hi => by
    obtain rfl : i = a.length := by omega
    obtain ⟨hl, hg⟩ := valid_good h
    have hlen := joinTo_len h a.length (Nat.le_refl _)
    have e : strings_Join.f ((a.take a.length).map fun p => bts (spanB p)) (⟨#[32]⟩ : ByteArray) = some (bts (joinTo a a.length)) := by
      unfold strings_Join.f
      have e2 : ((a.take a.length).map fun p => bts (spanB p)).map (·.data.toList) = (a.take a.length).map spanB := by rw [List.map_map]; rfl
      have e3 : join (((a.take a.length).map fun p => bts (spanB p)).map (·.data.toList)) (⟨#[32]⟩ : ByteArray).data.toList = joinTo a a.length := by rw [e2]; rfl
      rw [e3, if_pos ⟨by rw [List.length_map, List.length_take]; omega, by omega⟩]
      rfl
    refine Ev.step (f := fun _ => some (bts (joinTo a a.length), 0)) (fun k => ?_) (Ev.now _)
    simp only [span_Text.l0]
    rw [if_neg (by omega), e]
    rfl
  | d + 1, i, hi => by
    obtain ⟨hl, hg⟩ := valid_good h
    have hgi := hg i (by omega)
    obtain ⟨⟨a1, a2⟩, b1, b2⟩ := good_range hgi
    have ih := text_loop h d (i + 1) (by omega)
    have l1 := itoa_length_le (a.getD i z41).f0 (by omega) (by omega)
    have l2 := itoa_length_le (a.getD i z41).f1 (by omega) (by omega)
    have e1 : wrap64 ((i : Int) + 1) = ((i + 1 : Nat) : Int) := by unfold wrap64; omega
    have t1 : strconv_Itoa.f (a.getD i z41).f0 = some (bts (itoa (a.getD i z41).f0)) := by unfold strconv_Itoa.f; rw [if_pos (by omega)]; rfl
    have t2 : strconv_Itoa.f (a.getD i z41).f1 = some (bts (itoa (a.getD i z41).f1)) := by unfold strconv_Itoa.f; rw [if_pos (by omega)]; rfl
    have e2 : (bts (itoa (a.getD i z41).f0) ++ (⟨#[46, 46]⟩ : ByteArray)) ++ bts (itoa (a.getD i z41).f1) = bts (spanB (a.getD i z41)) := by
      show (bts (itoa (a.getD i z41).f0) ++ bts [46, 46]) ++ bts (itoa (a.getD i z41).f1) = _
      rw [bts_app, bts_app]
      congr 1
      unfold spanB
      simp [List.append_assoc]
    have s1 : (bts (itoa (a.getD i z41).f0) ++ (⟨#[46, 46]⟩ : ByteArray)).size = (itoa (a.getD i z41).f0).length + 2 := by rw [ByteArray.size_append, bts_size]; rfl
    refine Ev.step (fun k => ?_) ih
    simp only [span_Text.l0]
    rw [if_pos (by omega), if_pos (by omega), if_pos (by omega), rdS, t1, Option.bind_some, if_pos (by rw [bts_size]; omega), t2, Option.bind_some, if_pos (by rw [s1, bts_size]; omega), if_pos (by rw [List.length_map, List.length_take]; omega), e2, e1]
    rw [take_snocS a i (by omega), List.map_append]
    rfl
theorem text_ev (a : List S41) (hn : a.length ≤ 9223372036854775807) : Ev (fun k => span_Text.f k a) (textR a) := by
  unfold span_Text.f
  refine Ev.bind (spanValid_ev a hn) ?_
  cases hv : validS a with
  | false =>
    have e : textR a = (bts [], 2) := by unfold textR; rw [hv]; rfl
    rw [e]
    exact Ev.congr (f := fun _ => some (bts [], 2)) (fun k => if_neg (by simp)) (Ev.now _)
  | true =>
    refine Ev.congr (fun k => if_pos rfl) ?_
    by_cases h0 : a.length = 0
    · obtain rfl : a = [] := List.eq_nil_of_length_eq_zero h0
      have e : textR [] = (bts [45], 0) := by unfold textR; rw [hv]; rfl
      rw [e]
      exact Ev.congr (f := fun _ => some (bts [45], 0)) (fun k => if_pos (by simp)) (Ev.now _)
    · have e : textR a = (bts (joinTo a a.length), 0) := by
        unfold textR textB joinTo
        rw [hv, if_pos rfl, if_neg (by rintro rfl; exact h0 rfl), List.take_length]
      rw [e]
      refine Ev.congr (fun k => if_neg (by omega)) ?_
      exact text_loop hv a.length 0 (by omega)
end Go.Proofs.YtmomcbhgggggnaaGreatDoor.Pr
end
section
namespace Go.Proofs.YtmomcbhgggggnaaGreatDoor.Pr
open Go.RowKit Go.Shelf Go.Proofs.YtmomcbhgggggnaaGreatDoorW.PrintWords Go.Proofs.YtmomcbhgggggnaaGreatDoorW.PrintLast Go.Proofs.YtmomcbhgggggnaaGreatDoorW.PrintMore
set_option linter.unusedVariables false
set_option linter.unusedSimpArgs false
/-- What strconv.Atoi tells: a number and no error, or an error. -/
def AtoiSays (l : List UInt8) (n : Int) (ev : Value) : Prop := (Lib.atoiAll l = .ok n ∧ ev = .nilIface) ∨ ((∀ v, Lib.atoiAll l ≠ .ok v) ∧ ∃ tp p, ev = .iface tp p)
theorem atoi_calls (s : ByteArray) (w : World) (hl : LaidAt w) (hs : s.size ≤ 281474976710656) :
    Calls Tryz.prog 29 #[.string s] w fun e w' => ∃ n ev, e = .returned (.tuple #[.int .i64 n, ev]) ∧ AtoiSays s.data.toList n ev ∧ Below w.heap.size w w' := by
  cases h : Lib.atoiAll s.data.toList with
  | ok v =>
    refine (Tryz.strconv_Atoi_ok s (by omega) v h w).mono ?_
    rintro e w' ⟨rfl, hw⟩
    refine ⟨v, _, rfl, .inl ⟨h, rfl⟩, ?_⟩
    rcases hw with rfl | ⟨t, rfl⟩
    · exact Below.refl _ _
    · exact Lib.bytesWorld_below w 5 t
  | range =>
    obtain ⟨te, pe, hv⟩ := hl.ran
    refine (Tryz.strconv_Atoi_range s hs h _ w hv (.inr ⟨te, pe, rfl⟩)).mono ?_
    rintro e w' ⟨N, rfl, _, _, hb⟩
    exact ⟨_, _, rfl, .inr ⟨fun v hv => (by rw [h] at hv; cases hv), _, _, rfl⟩, hb⟩
  | _ =>
    obtain ⟨te, pe, hv⟩ := hl.syn
    refine (Tryz.strconv_Atoi_syntax s hs h _ w hv (.inr ⟨te, pe, rfl⟩)).mono ?_
    rintro e w' ⟨N, rfl, _, _, hb⟩
    exact ⟨0, _, rfl, .inr ⟨fun v hv => (by rw [h] at hv; cases hv), _, _, rfl⟩, hb⟩
def pairR (A B : Lib.NumEnd Int) : Option S41 := match A, B with
  | .ok a, .ok b => some ⟨a, b⟩
  | _, _ => none
theorem pair_l {A B : Lib.NumEnd Int} (h : ∀ v, A ≠ .ok v) : pairR A B = none := by
  cases A with
  | ok v => exact absurd rfl (h v)
  | _ => rfl
theorem pair_r {A B : Lib.NumEnd Int} (h : ∀ v, B ≠ .ok v) : pairR A B = none := by
  cases B with
  | ok v => exact absurd rfl (h v)
  | _ => cases A <;> rfl
/-- One word. -/
def wordR (x : ByteArray) : Option S41 :=
  if (Lib.cut x.data.toList [46, 46]).2.2 = true then pairR (Lib.atoiAll (Lib.cut x.data.toList [46, 46]).1) (Lib.atoiAll (Lib.cut x.data.toList [46, 46]).2.1) else none
def wordsR : List ByteArray → List S41 → Option (List S41)
  | [], out => some out
  | x :: t, out => match wordR x with
    | some p => if out.length ≥ 128 then none else wordsR t (out ++ [p])
    | none => none
def wordsOf (s : ByteArray) : List ByteArray := Lib.splitB ⟨#[32]⟩ 0 (Lib.countB s ⟨#[32]⟩) s
def parseEnd (k : Nat) (s : ByteArray) (out : List S41) : Option (List S41 × Int) := (span_Text.f k out).bind fun r => if r.2 = 0 ∧ r.1.toList = s.toList then some (out, 0) else some ([], 5)
def span_Parse.f (k : Nat) (s : ByteArray) : Option (List S41 × Int) :=
  if s.toList = ([45] : List UInt8) then parseEnd k s [] else match wordsR (wordsOf s) [] with
    | some out => parseEnd k s out
    | none => some ([], 5)
theorem split_size (sep : ByteArray) : ∀ (k : Nat) (s : ByteArray), ∀ x ∈ Lib.splitB sep 0 k s, x.size ≤ s.size
  | 0, s, x, hx => by
    rw [Lib.splitB_zero, List.mem_singleton] at hx
    subst hx
    exact Nat.le_refl _
  | k + 1, s, x, hx => by
    unfold Lib.splitB at hx
    split at hx
    · rw [List.mem_singleton] at hx
      subst hx
      exact Nat.le_refl _
    · rcases List.mem_cons.1 hx with rfl | hx
      · rw [ByteArray.size_extract]; omega
      · have := split_size sep k _ x hx
        rw [ByteArray.size_extract] at this
        omega
theorem cut_calls (x : ByteArray) (w : World) (hl : LaidAt w) (hs : x.size < 4294967281) :
    Calls Tryz.prog 28 #[.string x, .string ⟨#[46, 46]⟩] w fun e w' => e = .returned (.tuple #[.string ⟨(Lib.cut x.data.toList [46, 46]).1.toArray⟩, .string ⟨(Lib.cut x.data.toList [46, 46]).2.1.toArray⟩, .bool (Lib.cut x.data.toList [46, 46]).2.2]) ∧ Below w.heap.size w w' := by
  obtain ⟨m, hm⟩ := hl.len
  refine (Tryz.strings_Cut x ⟨#[46, 46]⟩ m w hs hm).mono ?_
  rintro e w' ⟨rfl, n, rfl⟩
  exact ⟨rfl, pw_below_drewN (Below.refl _ _) n⟩
theorem cut_size (x : ByteArray) : (Lib.cut x.data.toList [46, 46]).1.length ≤ x.size ∧ (Lib.cut x.data.toList [46, 46]).2.1.length ≤ x.size := by
  have e : x.data.toList.length = x.size := by rw [Array.length_toList]; rfl
  unfold Lib.cut
  split
  · simp only
    rw [List.length_take, List.length_drop, e]
    omega
  · simp only
    rw [e]
    exact ⟨Nat.le_refl _, Nat.zero_le _⟩
set_option maxHeartbeats 4000000 in
set_option maxRecDepth 100000 in
theorem span_Parse.calls (k : Nat) (a0 : ByteArray) (r1 : List S41) (r2 : Int) (w : World) (HLD : Aside0 (LaidAt w)) (hs : a0.size < 4294967281) (h : span_Parse.f k a0 = some (r1, r2)) :
    Calls Tryz.prog 9 #[.string a0] w fun e w' => ∃ v0_ : Value, e = .returned (.tuple #[v0_, .int .i64 r2]) ∧ Kd.R k41 41 w' w.heap.size (fun _ => True) v0_ r1 ∧ Below w.heap.size w w' := by
  have hu41 := Tryz.underlying41
  have HB := Aside0.mk (Below.refl w.heap.size w)
  have HS := Aside0.mk hs
  unfold span_Parse.f at h
  by_cases c2 : a0.toList = ([45] : List UInt8)
  · rw [if_pos c2] at h
    have c2b0 : (a0.toList == ([45] : List UInt8)) = true := beq_iff_eq.mpr c2
    have c2b1 : (a0.toList != ([45] : List UInt8)) = false := bne_eq_false_iff_eq.mpr c2
    clear c2 hs
    unfold parseEnd at h
    obtain ⟨⟨t1, t2⟩, ht, h⟩ := Option.bind_eq_some_iff.mp h
    have H7 := Aside0.mk (show ∀ W, Below w.heap.size w W → Calls Tryz.prog 7 #[.slice none 0 0] W fun e w' => e = .returned (.tuple #[.string t1, .int .i64 t2]) ∧ Below W.heap.size W w' from fun W hb => span_Text.calls k none 0 [] t1 t2 W ⟨HLD.out.below hb⟩ (Kd.R_reads' (Kd.R_nil k41 41 W W.heap.size (fun _ => True))).2.2 (Nat.le_refl _) ht)
    clear ht
    simp only at h
    by_cases ce : t2 = 0
    · subst ce
      by_cases cs : t1.toList = a0.toList
      · have d0 : (t1.toList == a0.toList) = true := beq_iff_eq.mpr cs
        have d1 : (t1.toList != a0.toList) = false := bne_eq_false_iff_eq.mpr cs
        rw [if_pos ⟨rfl, cs⟩] at h
        simp only [Option.some.injEq, Prod.mk.injEq] at h
        obtain ⟨rfl, rfl⟩ := h
        clear cs
        go_enter Tryz.func9, Tryz.ntmps9; go_wp2_with (go_at_call 7; (with_reducible refine (H7.out _ HB.out).mono ?_); rintro e w9 ⟨rfl, hb⟩; have HB9 := Aside0.mk (below_step HB.out hb); clear hb)
        go_ret2
        exact ⟨_, rfl, Kd.R_nil _ _ _ _ _, HB9.out⟩
      · have d0 : (t1.toList == a0.toList) = false := beq_eq_false_iff_ne.mpr cs
        have d1 : (t1.toList != a0.toList) = true := bne_iff_ne.mpr cs
        rw [if_neg (fun z => cs z.2)] at h
        simp only [Option.some.injEq, Prod.mk.injEq] at h
        obtain ⟨rfl, rfl⟩ := h
        clear cs
        go_enter Tryz.func9, Tryz.ntmps9; go_wp2_with (go_at_call 7; (with_reducible refine (H7.out _ HB.out).mono ?_); rintro e w9 ⟨rfl, hb⟩; have HB9 := Aside0.mk (below_step HB.out hb); clear hb)
        go_ret2
        exact ⟨_, rfl, Kd.R_nil _ _ _ _ _, HB9.out⟩
    · have d2 : (t2 != 0) = true := bne_iff_ne.mpr ce
      have d3 : (t2 == 0) = false := beq_eq_false_iff_ne.mpr ce
      rw [if_neg (fun z => ce z.1)] at h
      simp only [Option.some.injEq, Prod.mk.injEq] at h
      obtain ⟨rfl, rfl⟩ := h
      clear ce
      go_enter Tryz.func9, Tryz.ntmps9; go_wp2_with (go_at_call 7; (with_reducible refine (H7.out _ HB.out).mono ?_); rintro e w9 ⟨rfl, hb⟩; have HB9 := Aside0.mk (below_step HB.out hb); clear hb)
      go_ret2
      exact ⟨_, rfl, Kd.R_nil _ _ _ _ _, HB9.out⟩
  · rw [if_neg c2] at h
    have c2b0 : (a0.toList == ([45] : List UInt8)) = false := beq_eq_false_iff_ne.mpr c2
    have c2b1 : (a0.toList != ([45] : List UInt8)) = true := bne_iff_ne.mpr c2
    clear c2
    obtain ⟨m, hm⟩ := HLD.out.len
    obtain ⟨ws, hws, hsp⟩ : ∃ ws : List ByteArray, ws = wordsOf a0 ∧ Calls Tryz.prog 27 #[.string a0, .string ⟨#[32]⟩] w fun e w' => e = .returned (.slice (some ⟨w.heap.size, 0, none⟩) ws.length ws.length) ∧ w' = w.alloc (.cells (ws.map Value.string).toArray 9) := by
      refine ⟨_, rfl, ?_⟩
      have e : (wordsOf a0).length = Lib.countB a0 ⟨#[32]⟩ + 1 := Lib.splitB_all ⟨#[32]⟩ (by decide) 0 _ a0 rfl
      rw [e]
      exact Tryz.strings_Split a0 ⟨#[32]⟩ m w hs hm (by decide)
    have HWS := Aside0.mk (show ∀ x ∈ ws, x.size ≤ a0.size by rw [hws]; exact split_size _ _ _)
    have HWL := Aside0.mk (show ws.length ≤ 4294967290 by
      rw [hws]
      have e : (wordsOf a0).length = Lib.countB a0 ⟨#[32]⟩ + 1 := Lib.splitB_all ⟨#[32]⟩ (by decide) 0 _ a0 rfl
      have e2 := Lib.count_le a0.data.toList [32]
      have e3 : a0.data.toList.length = a0.size := by rw [Array.length_toList]; rfl
      have e4 : Lib.countB a0 ⟨#[32]⟩ = Lib.count a0.data.toList [32] := rfl
      omega)
    rw [← hws] at h
    have H := Aside0.mk h
    have HSP := Aside0.mk hsp
    clear h hsp hws hm hs
    go_enter Tryz.func9, Tryz.ntmps9
    go_wp2_with (go_at_call 27; (with_reducible refine HSP.out.mono ?_); rintro e w1 ⟨rfl, rfl⟩)
    have BK0 := Aside0.mk (blk_new w (.cells (ws.map Value.string).toArray 9))
    have HB0 := Aside0.mk (below_alloc HB.out (.cells (ws.map Value.string).toArray 9))
    go_loopg [4, 21] ws.length (fun gg v4 v21 wr => ∃ (i : Nat) (out : List S41), i ≤ ws.length ∧ ws.length - i ≤ gg ∧ v21 = .int .i64 (i : Int) ∧ Aside0 ((match wordsR (ws.drop i) out with | some o => parseEnd k a0 o | none => some ([], 5)) = some (r1, r2)) ∧ Aside0 (out.length ≤ i) ∧ Aside0 (Kd.R k41 41 wr w.heap.size (fun _ => True) v4 out) ∧ Aside0 (wr.heap[w.heap.size]? = some (.cells (ws.map Value.string).toArray 9 (0, 0))) ∧ Aside0 (Below w.heap.size w wr))
    case atStart => exact ⟨0, [], Nat.zero_le _, by omega, rfl, H, ⟨Nat.le_refl _⟩, ⟨Kd.R_nil _ _ _ _ _⟩, BK0, HB0⟩
    case round =>
      obtain ⟨i, out, hi, hg, rfl, HA, HLN, HO, BK, HB⟩ := hrel
      by_cases hlt : i < ws.length
      · have hltz : (i : Int) < (ws.length : Int) := by omega
        have h0i : (0 : Int) ≤ (i : Int) := by omega
        have hx : wr.cell? ⟨w.heap.size, i, none⟩ = some (.string ws[i]) := (blk_cell BK.out i).trans (by rw [List.getElem?_toArray, List.getElem?_map, List.getElem?_eq_getElem hlt]; rfl)
        have hxs : ws[i].size < 4294967281 := by have := HWS.out ws[i] (List.getElem_mem hlt); have := HS.out; omega
        have h := HA.out
        rw [List.drop_eq_getElem_cons hlt] at h
        simp only [wordsR] at h
        have hcut := cut_calls ws[i] wr (HLD.out.below HB.out) hxs
        have hcs := cut_size ws[i]
        unfold wordR at h
        generalize ws[i] = y at h hcut hcs hx hxs
        generalize Lib.cut y.data.toList [46, 46] = c at h hcut hcs
        obtain ⟨lo, hi2, fl⟩ := c
        simp only at h hcut hcs
        have HA1 : Aside0 (∀ W, LaidAt W → Calls Tryz.prog 29 #[.string ⟨lo.toArray⟩] W fun e w' => ∃ n ev, e = .returned (.tuple #[.int .i64 n, ev]) ∧ AtoiSays lo n ev ∧ Below W.heap.size W w') := ⟨fun W hl => atoi_calls ⟨lo.toArray⟩ W hl (by have : (⟨lo.toArray⟩ : ByteArray).size = lo.length := rfl; omega)⟩
        have HA2 : Aside0 (∀ W, LaidAt W → Calls Tryz.prog 29 #[.string ⟨hi2.toArray⟩] W fun e w' => ∃ n ev, e = .returned (.tuple #[.int .i64 n, ev]) ∧ AtoiSays hi2 n ev ∧ Below W.heap.size W w') := ⟨fun W hl => atoi_calls ⟨hi2.toArray⟩ W hl (by have : (⟨hi2.toArray⟩ : ByteArray).size = hi2.length := rfl; omega)⟩
        have HCUT := Aside0.mk hcut
        clear hcut hcs hxs HA
        have HH := Aside0.mk h
        clear h
        obtain ⟨Ao, co, eo⟩ := Kd.R_slice HO.out
        subst eo
        go_upto_region 9 with (first | (go_at_call 28; (with_reducible refine HCUT.out.mono ?_); rintro e w2 ⟨rfl, hb⟩; have HB2 := Aside0.mk (below_step HB.out hb); have HO2 := Aside0.mk (Kd.R_below HO.out hb); have BK2 := Aside0.mk (blk_below BK.out hb); clear hb HB HO BK) | (go_at_call 29; (with_reducible refine (HA1.out _ (HLD.out.below HB2.out)).mono ?_); rintro e w3 ⟨n1, ev1, rfl, hs1, hb⟩; have HS1 := Aside0.mk hs1; have HB3 := Aside0.mk (below_step HB2.out hb); have HO3 := Aside0.mk (Kd.R_below HO2.out hb); have BK3 := Aside0.mk (blk_below BK2.out hb); clear hb hs1 HB2 HO2 BK2) | (go_at_call 29; (with_reducible refine (HA2.out _ (HLD.out.below HB3.out)).mono ?_); rintro e w4 ⟨n2, ev2, rfl, hs2, hb⟩; have HS2 := Aside0.mk hs2; have HB := Aside0.mk (below_step HB3.out hb); have HO := Aside0.mk (Kd.R_below HO3.out hb); have BK := Aside0.mk (blk_below BK3.out hb); clear hb hs2 HB3 HO3 BK3))
        have h := HH.out
        clear HH HCUT
        cases fl with
        | false =>
          rw [if_neg (by simp)] at h
          simp only [Option.some.injEq, Prod.mk.injEq] at h
          obtain ⟨rfl, rfl⟩ := h
          go_wp2
          go_ret2
          exact ⟨_, rfl, Kd.R_nil _ _ _ _ _, HB.out⟩
        | true =>
          rw [if_pos rfl] at h
          rcases HS1.out with ⟨ha, rfl⟩ | ⟨hna, tp, p, rfl⟩
          · rcases HS2.out with ⟨hb2, rfl⟩ | ⟨hnb, tp, p, rfl⟩
            · rw [ha, hb2] at h
              simp only [pairR] at h
              by_cases hlen : out.length ≥ 128
              · rw [if_pos hlen] at h
                have l0 : decide ((128 : Int) ≤ (out.length : Int)) = true := decide_eq_true (by omega)
                have l1 : decide (128 ≤ out.length) = true := decide_eq_true hlen
                simp only [Option.some.injEq, Prod.mk.injEq] at h
                obtain ⟨rfl, rfl⟩ := h
                go_wp2
                go_ret2
                exact ⟨_, rfl, Kd.R_nil _ _ _ _ _, HB.out⟩
              · rw [if_neg hlen] at h
                have l0 : decide ((128 : Int) ≤ (out.length : Int)) = false := decide_eq_false (by omega)
                have l1 : decide (128 ≤ out.length) = false := decide_eq_false hlen
                have HH := Aside0.mk h
                have HL := Aside0.mk hlen
                have hi5 : i ≤ 4294967290 := by have := HWL.out; omega
                clear h hlen
                go_wp2_with ((with_reducible refine gate_builtin (b := .append) (xs := #[.tmp 56, .tmp 60]) rfl ?_); (try (refine gate_guard (by rfl) ?_; dsimp only)); at_builtin; refine Kd.R_append k41 (w0 := w) w.heap.size rfl (.tmp 56) (.tmp 60) 22 41 (.agg #[(.int .i64 0), (.int .i64 0)]) 16 rfl Tryz.underlying22 info41 rfl (by decide) (by omega) (.slice Ao out.length co) out (⟨n1, n2⟩ : S41) [.int .i64 n1, .int .i64 n2] (fun _ => True) (fun _ => False) rfl rfl ?aP (fun _ hk => hk.elim) ?aF ?aO ?aB ?aS ?aL ?_; (case aP => exact k41_mkM _ _ _ (⟨n1, n2⟩ : S41)); (case aB => exact HB.out); (case aF => exact (fun _ _ => trivial)); (case aO => exact HO.out); (case aS => exact (below_size HB.out)); (case aL => have := HL.out; omega); intro v5 w5 ho hb hg5 hat; have HB5 := Aside0.mk hb; have HO5 := Aside0.mk ho; have BK5 := Aside0.mk (blk_grown BK.out hg5 (Kd.R_ne HO.out BK.out (by decide))); clear ho hb hg5 hat)
                go_roundg (ws.length - (i + 1))
                case measure => omega
                case rel => exact ⟨i + 1, out ++ [⟨n1, n2⟩], by omega, by omega, by go_num, HH, ⟨by have := HLN.out; rw [List.length_append, List.length_singleton]; omega⟩, HO5, BK5, HB5⟩
            · rw [pair_r hnb] at h
              simp only [Option.some.injEq, Prod.mk.injEq] at h
              obtain ⟨rfl, rfl⟩ := h
              go_wp2
              go_ret2
              exact ⟨_, rfl, Kd.R_nil _ _ _ _ _, HB.out⟩
          · rw [pair_l hna] at h
            simp only [Option.some.injEq, Prod.mk.injEq] at h
            obtain ⟨rfl, rfl⟩ := h
            go_wp2
            go_ret2
            exact ⟨_, rfl, Kd.R_nil _ _ _ _ _, HB.out⟩
      · have hltz : ¬(i : Int) < (ws.length : Int) := by omega
        have h := HA.out
        rw [List.drop_eq_nil_of_le (by omega)] at h
        simp only [wordsR] at h
        unfold parseEnd at h
        clear HA
        obtain ⟨Ao, co, eo⟩ := Kd.R_slice HO.out
        subst eo
        obtain ⟨⟨t1, t2⟩, ht, h⟩ := Option.bind_eq_some_iff.mp h
        have HT := Aside0.mk ht
        clear ht
        simp only at h
        by_cases ce : t2 = 0
        · subst ce
          by_cases cs : t1.toList = a0.toList
          · have d0 : (t1.toList == a0.toList) = true := beq_iff_eq.mpr cs
            have d1 : (t1.toList != a0.toList) = false := bne_eq_false_iff_eq.mpr cs
            rw [if_pos ⟨rfl, cs⟩] at h
            simp only [Option.some.injEq, Prod.mk.injEq] at h
            obtain ⟨rfl, rfl⟩ := h
            clear cs
            go_wp2_with (go_at_call 7; (with_reducible refine (span_Text.calls k _ _ out t1 0 _ ⟨HLD.out.below HB.out⟩ (Kd.R_reads' HO.out).2.2 (Kd.R_reads' HO.out).2.1 HT.out).mono ?_); rintro e w9 ⟨rfl, hb⟩; have HB9 := Aside0.mk (below_step HB.out hb); have HO9 := Aside0.mk (Kd.R_below HO.out hb); clear hb)
            go_ret2
            exact ⟨_, rfl, HO9.out, HB9.out⟩
          · have d0 : (t1.toList == a0.toList) = false := beq_eq_false_iff_ne.mpr cs
            have d1 : (t1.toList != a0.toList) = true := bne_iff_ne.mpr cs
            rw [if_neg (fun z => cs z.2)] at h
            simp only [Option.some.injEq, Prod.mk.injEq] at h
            obtain ⟨rfl, rfl⟩ := h
            clear cs
            go_wp2_with (go_at_call 7; (with_reducible refine (span_Text.calls k _ _ out t1 0 _ ⟨HLD.out.below HB.out⟩ (Kd.R_reads' HO.out).2.2 (Kd.R_reads' HO.out).2.1 HT.out).mono ?_); rintro e w9 ⟨rfl, hb⟩; have HB9 := Aside0.mk (below_step HB.out hb); clear hb)
            go_ret2
            exact ⟨_, rfl, Kd.R_nil _ _ _ _ _, HB9.out⟩
        · have d2 : (t2 != 0) = true := bne_iff_ne.mpr ce
          have d3 : (t2 == 0) = false := beq_eq_false_iff_ne.mpr ce
          rw [if_neg (fun z => ce z.1)] at h
          simp only [Option.some.injEq, Prod.mk.injEq] at h
          obtain ⟨rfl, rfl⟩ := h
          clear ce
          go_wp2_with (go_at_call 7; (with_reducible refine (span_Text.calls k _ _ out t1 t2 _ ⟨HLD.out.below HB.out⟩ (Kd.R_reads' HO.out).2.2 (Kd.R_reads' HO.out).2.1 HT.out).mono ?_); rintro e w9 ⟨rfl, hb⟩; have HB9 := Aside0.mk (below_step HB.out hb); clear hb)
          go_ret2
          exact ⟨_, rfl, Kd.R_nil _ _ _ _ _, HB9.out⟩
end Go.Proofs.YtmomcbhgggggnaaGreatDoor.Pr
end
section
namespace Go.Proofs.YtmomcbhgggggnaaGreatDoor.Pr
open Go.RowKit Go.Lib Go.Proofs.YtmomcbhgggggnaaGreatDoorW.PrintWords Go.Proofs.YtmomcbhgggggnaaGreatDoorW.PrintLast Go.Proofs.YtmomcbhgggggnaaGreatDoorW.PrintMore
set_option linter.unusedVariables false
set_option linter.unusedSimpArgs false
theorem dat_list (s : ByteArray) : s.data.toList = s.toList := (toList_data s).symm
/-- A parse is well: the set's text is the string. -/
def Canon (s : ByteArray) (a : List S41) : Prop := validS a = true ∧ textB a = s.toList
theorem word_span {p : S41} (h : goodS p = true) : wordR (bts (spanB p)) = some p := by
  obtain ⟨⟨a1, a2⟩, b1, b2⟩ := good_range h
  have e : cut (bts (spanB p)).data.toList [46, 46] = (itoa p.f0, itoa p.f1, true) := cut_two _ _ fun b hb => (itoa_no p.f0 b hb).2
  unfold wordR
  rw [e, if_pos rfl]
  simp only
  rw [atoi_itoa _ (by omega) (by omega), atoi_itoa _ (by omega) (by omega)]
  rfl
theorem words_span : ∀ (l out : List S41), (∀ p ∈ l, goodS p = true) → out.length + l.length ≤ 128 → wordsR (l.map fun p => bts (spanB p)) out = some (out ++ l)
  | [], out, _, _ => by rw [List.map_nil, List.append_nil]; rfl
  | p :: t, out, hg, hl => by
    rw [List.length_cons] at hl
    have ih := words_span t (out ++ [p]) (fun q hq => hg q (List.mem_cons_of_mem _ hq)) (by rw [List.length_append, List.length_singleton]; omega)
    rw [List.map_cons]
    simp only [wordsR]
    rw [word_span (hg p List.mem_cons_self)]
    simp only
    rw [if_neg (by omega), ih, List.append_assoc]
    rfl
theorem valid_mem {a : List S41} (h : validS a = true) : a.length ≤ 128 ∧ ∀ p ∈ a, goodS p = true := by
  obtain ⟨h1, h2⟩ := valid_good h
  refine ⟨h1, fun p hp => ?_⟩
  obtain ⟨i, hi, rfl⟩ := List.mem_iff_getElem.1 hp
  have := h2 i hi
  rwa [List.getD_eq_getElem?_getD, List.getElem?_eq_getElem hi] at this
theorem span_no32 (p : S41) : ∀ b ∈ spanB p, b ≠ 32 := by
  intro b hb
  unfold spanB at hb
  rcases List.mem_append.1 hb with h | h
  · exact (itoa_no _ b h).1
  · rcases List.mem_cons.1 h with rfl | h
    · decide
    · rcases List.mem_cons.1 h with rfl | h
      · decide
      · exact (itoa_no _ b h).1
theorem text_split {a : List S41} (h0 : a ≠ []) : split (textB a) [32] = a.map spanB := by
  unfold textB
  rw [if_neg h0]
  exact split_join _ (by simpa using h0) fun w hw => by
    obtain ⟨p, _, rfl⟩ := List.mem_map.1 hw
    exact span_no32 p
theorem words_list (s : ByteArray) : (wordsOf s).map (·.toList) = split s.toList [32] := by
  have h := splitB_data ⟨#[32]⟩ 0 (countB s ⟨#[32]⟩) s
  rw [show (fun x : ByteArray => x.data.toList) = fun x => x.toList from funext dat_list] at h
  unfold wordsOf
  rw [h, dat_list s]
  show splitK [32] 0 (count s.data.toList [32]) s.toList = splitK [32] 0 (count s.toList [32]) s.toList
  rw [dat_list s]
theorem words_of {s : ByteArray} {ws : List (List UInt8)} (h : split s.toList [32] = ws) : wordsOf s = ws.map bts := by
  rw [← h, ← words_list, List.map_map]
  rw [show (bts ∘ fun x : ByteArray => x.toList) = id from funext bts_of, List.map_id]
theorem text_dash {a : List S41} (h0 : a ≠ []) : textB a ≠ [45] := by
  intro h
  have hs := text_split h0
  rw [h] at hs
  obtain ⟨p, t, rfl⟩ : ∃ p t, a = p :: t := by
    cases a with
    | nil => exact absurd rfl h0
    | cons p t => exact ⟨p, t, rfl⟩
  rw [List.map_cons] at hs
  have e : split [45] [32] = [[45]] := by decide
  rw [e] at hs
  injection hs with hs _
  have : (46 : UInt8) ∈ spanB p := by
    unfold spanB
    exact List.mem_append_right _ List.mem_cons_self
  rw [← hs] at this
  simp at this
theorem canon_words {s : ByteArray} {a : List S41} (h : Canon s a) (h0 : a ≠ []) : wordsR (wordsOf s) [] = some a := by
  obtain ⟨hv, ht⟩ := h
  obtain ⟨h1, h2⟩ := valid_mem hv
  have e := text_split h0
  rw [ht] at e
  rw [words_of e, List.map_map]
  exact words_span a [] h2 (by simpa using h1)
theorem end_ev (s : ByteArray) (out : List S41) (hn : out.length ≤ 9223372036854775807) : (Canon s out ∧ Ev (fun k => parseEnd k s out) (out, 0)) ∨ (¬Canon s out ∧ Ev (fun k => parseEnd k s out) ([], 5)) := by
  unfold parseEnd
  cases hv : validS out with
  | false =>
    refine .inr ⟨fun h => (by rw [h.1] at hv; cases hv), Ev.bind (text_ev out hn) ?_⟩
    have e : textR out = (bts [], 2) := by unfold textR; rw [hv]; rfl
    rw [e]
    exact Ev.congr (f := fun _ => some ([], 5)) (fun k => if_neg (by simp)) (Ev.now _)
  | true =>
    have e : textR out = (bts (textB out), 0) := by unfold textR; rw [hv]; rfl
    by_cases hc : textB out = s.toList
    · refine .inl ⟨⟨hv, hc⟩, Ev.bind (text_ev out hn) ?_⟩
      rw [e]
      exact Ev.congr (f := fun _ => some (out, 0)) (fun k => if_pos ⟨rfl, by rw [bts_list]; exact hc⟩) (Ev.now _)
    · refine .inr ⟨fun h => hc h.2, Ev.bind (text_ev out hn) ?_⟩
      rw [e]
      exact Ev.congr (f := fun _ => some ([], 5)) (fun k => if_neg (fun h => hc (by have := h.2; rwa [bts_list] at this))) (Ev.now _)
theorem words_len : ∀ (ws : List ByteArray) (out r : List S41), wordsR ws out = some r → r.length = out.length + ws.length
  | [], out, r, h => by
    simp only [wordsR, Option.some.injEq] at h
    subst h
    rfl
  | x :: t, out, r, h => by
    simp only [wordsR] at h
    split at h
    · split at h
      · cases h
      · have := words_len t _ r h
        rw [List.length_append, List.length_singleton] at this
        rw [List.length_cons]
        omega
    · cases h
/-- The set whose text it is, or the error. -/
theorem parse_ev (s : ByteArray) (hs : s.size ≤ 1000000) : (∃ a, Canon s a ∧ Ev (fun k => span_Parse.f k s) (a, 0)) ∨ ((∀ a, ¬Canon s a) ∧ Ev (fun k => span_Parse.f k s) ([], 5)) := by
  unfold span_Parse.f
  by_cases h45 : s.toList = ([45] : List UInt8)
  · have hc : Canon s [] := ⟨by rfl, by rw [h45]; rfl⟩
    rcases end_ev s [] (by simp) with ⟨_, he⟩ | ⟨hn, _⟩
    · exact .inl ⟨[], hc, Ev.congr (fun k => if_pos h45) he⟩
    · exact absurd hc hn
  · have key : ∀ a, Canon s a → wordsR (wordsOf s) [] = some a := fun a ha => canon_words ha (by
      rintro rfl
      exact h45 ha.2.symm)
    cases hw : wordsR (wordsOf s) [] with
    | none =>
      refine .inr ⟨fun a ha => (by rw [key a ha] at hw; cases hw), ?_⟩
      exact Ev.congr (f := fun _ => some ([], 5)) (fun k => if_neg h45) (Ev.now _)
    | some out =>
      have hl : (wordsOf s).length = countB s ⟨#[32]⟩ + 1 := splitB_all ⟨#[32]⟩ (by decide) 0 _ s rfl
      have e2 := count_le s.data.toList [32]
      have e3 : s.data.toList.length = s.size := by rw [Array.length_toList]; rfl
      have e4 : countB s ⟨#[32]⟩ = count s.data.toList [32] := rfl
      have hlen := words_len _ _ _ hw
      rcases end_ev s out (by rw [hlen, List.length_nil]; omega) with ⟨hc, he⟩ | ⟨hn, he⟩
      · exact .inl ⟨out, hc, Ev.congr (fun k => if_neg h45) he⟩
      · refine .inr ⟨fun a ha => ?_, Ev.congr (fun k => if_neg h45) he⟩
        have := key a ha
        rw [hw] at this
        injection this with this
        subst this
        exact hn ha
end Go.Proofs.YtmomcbhgggggnaaGreatDoor.Pr
end
section
namespace Go.Proofs.YtmomcbhgggggnaaGreatDoor.Pr
open Go.RowKit Go.Lib Go.Proofs.YtmomcbhgggggnaaGreatDoorW.PrintWords Go.Proofs.YtmomcbhgggggnaaGreatDoorW.PrintLast Go.Proofs.YtmomcbhgggggnaaGreatDoorW.PrintMore
set_option linter.unusedVariables false
set_option linter.unusedSimpArgs false
theorem canon_one {s : ByteArray} {a b : List S41} (ha : Canon s a) (hb : Canon s b) : a = b := by
  by_cases h0 : a = []
  · by_cases h1 : b = []
    · rw [h0, h1]
    · subst h0
      exact absurd (hb.2.trans ha.2.symm) (text_dash h1)
  · by_cases h1 : b = []
    · subst h1
      exact absurd (ha.2.trans hb.2.symm) (text_dash h0)
    · have h2 := canon_words ha h0
      rw [canon_words hb h1] at h2
      exact (Option.some.inj h2).symm
end Go.Proofs.YtmomcbhgggggnaaGreatDoor.Pr
end
section
namespace Go.Proofs.YtmomcbhgggggnaaGreatDoor.Pr
open Go.RowKit Go.Proofs.YtmomcbhgggggnaaGreatDoorW.PrintWords Go.Proofs.YtmomcbhgggggnaaGreatDoorW.PrintLast Go.Proofs.YtmomcbhgggggnaaGreatDoorW.PrintMore
set_option linter.unusedVariables false
set_option linter.unusedSimpArgs false
/-- How many numbers of the set are less than x. -/
def rk : List S41 → Int → Int
  | [], _ => 0
  | s :: t, x => (if s.f0 < x then min x s.f1 - s.f0 else 0) + rk t x
theorem rk_low : ∀ (l : List S41) (lo x : Int), Asc lo l → x ≤ lo → rk l x = 0
  | [], _, _, _, _ => rfl
  | s :: t, lo, x, ⟨h1, h2, h3, h4⟩, h => by
    have ih := rk_low t (s.f1 + 1) x h4 (by omega)
    simp only [rk]
    rw [ih, if_neg (by omega)]
    rfl
theorem mem_low : ∀ (l : List S41) (lo x : Int), Asc lo l → x < lo → memS l x = false
  | [], _, _, _, _ => rfl
  | s :: t, lo, x, ⟨h1, h2, h3, h4⟩, h => by
    have ih := mem_low t (s.f1 + 1) x h4 (by omega)
    rw [memS_cons, ih]
    simp [hasS]
    omega
theorem rk_one (s : S41) (x : Int) (h : s.f0 < s.f1) : (if s.f0 < x + 1 then min (x + 1) s.f1 - s.f0 else 0) = (if s.f0 < x then min x s.f1 - s.f0 else 0) + (if hasS x s = true then 1 else 0) := by
  have hx : hasS x s = true ↔ s.f0 ≤ x ∧ x < s.f1 := by simp [hasS]
  by_cases h : hasS x s = true
  · have := hx.1 h
    rw [if_pos h, if_pos (show s.f0 < x + 1 by omega)]
    split <;> omega
  · have hn : ¬(s.f0 ≤ x ∧ x < s.f1) := fun g => h (hx.2 g)
    rw [if_neg h]
    split <;> split <;> omega
theorem rk_step : ∀ (l : List S41) (lo x : Int), Asc lo l → rk l (x + 1) = rk l x + (if memS l x = true then 1 else 0)
  | [], _, _, _ => rfl
  | s :: t, lo, x, ⟨h1, h2, h3, h4⟩ => by
    have ih := rk_step t (s.f1 + 1) x h4
    have lw := mem_low t (s.f1 + 1) x h4
    have hx : hasS x s = true → x < s.f1 := fun h => by simp [hasS] at h; exact h.2
    simp only [rk]
    rw [ih, memS_cons, rk_one s x h2]
    cases hh : hasS x s with
    | true =>
      rw [lw (by have := hx hh; omega)]
      simp
      omega
    | false =>
      simp
      omega
theorem rk_mono : ∀ (l : List S41) (lo x y : Int), Asc lo l → x ≤ y → rk l x ≤ rk l y
  | [], _, _, _, _, _ => by simp [rk]
  | s :: t, lo, x, y, ⟨h1, h2, h3, h4⟩, h => by
    have ih := rk_mono t (s.f1 + 1) x y h4 h
    simp only [rk]
    split <;> split <;> omega
theorem rk_bound : ∀ (l : List S41) (lo x : Int), Asc lo l → lo ≤ 1099511627777 → 0 ≤ rk l x ∧ rk l x ≤ 1099511627777 - lo
  | [], lo, x, _, h => by simp [rk]; omega
  | s :: t, lo, x, ⟨h1, h2, h3, h4⟩, h => by
    have ih := rk_bound t (s.f1 + 1) x h4 (by omega)
    simp only [rk]
    split <;> omega
theorem rk_fold (x : Int) : ∀ (l : List S41) (lo acc : Int), Asc lo l → -1099511627776 ≤ lo → 0 ≤ acc → acc + (1099511627777 - lo) ≤ 4611686018427387904 → l.foldl (rankStep x) acc = acc + rk l x
  | [], lo, acc, _, _, _, _ => by simp [rk]
  | s :: t, lo, acc, ⟨h1, h2, h3, h4⟩, h, ha, hb => by
    rw [List.foldl_cons]
    have hb2 := rk_bound t (s.f1 + 1) x h4 (by omega)
    by_cases c : s.f0 < x
    · have e : rankStep x acc s = acc + (min x s.f1 - s.f0) := by
        unfold rankStep
        rw [if_pos c]
        have : wrap64 (min x s.f1 - s.f0) = min x s.f1 - s.f0 := by unfold wrap64; omega
        rw [this]
        unfold wrap64
        omega
      rw [e, rk_fold x t (s.f1 + 1) _ h4 (by omega) (by omega) (by omega)]
      simp only [rk]
      rw [if_pos c]
      omega
    · have e : rankStep x acc s = acc := by unfold rankStep; rw [if_neg c]
      rw [e, rk_fold x t (s.f1 + 1) _ h4 (by omega) (by omega) (by omega)]
      simp only [rk]
      rw [if_neg c]
      omega
theorem rank_valid {a : List S41} (h : validS a = true) (x : Int) : a.foldl (rankStep x) 0 = rk a x := by
  rw [rk_fold x a _ 0 (asc_valid h).2 (by omega) (by omega) (by omega)]
  omega
theorem size_rk {a : List S41} (h : validS a = true) : rk a 1099511627776 = szS a := by
  rw [← rank_valid h]
  exact (size_eq h).1
theorem nth_rank : ∀ (l : List S41) (lo i : Int), Asc lo l → 0 ≤ i → i < szS l → ∃ y, nthS l i = some y ∧ memS l y = true ∧ rk l y = i ∧ lo ≤ y
  | [], lo, i, _, h0, h => by simp [szS] at h; omega
  | s :: t, lo, i, ⟨h1, h2, h3, h4⟩, h0, h => by
    have e : szS (s :: t) = (s.f1 - s.f0) + szS t := by simp [szS]
    by_cases c : i < s.f1 - s.f0
    · refine ⟨s.f0 + i, ?_, ?_, ?_, by omega⟩
      · simp only [nthS]; rw [if_pos c]
      · rw [memS_cons]; simp [hasS]; omega
      · simp only [rk]
        rw [rk_low t (s.f1 + 1) _ h4 (by omega)]
        split <;> omega
    · obtain ⟨y, y1, y2, y3, y4⟩ := nth_rank t (s.f1 + 1) (i - (s.f1 - s.f0)) h4 (by omega) (by omega)
      refine ⟨y, ?_, ?_, ?_, by omega⟩
      · simp only [nthS]; rw [if_neg c]; exact y1
      · rw [memS_cons, y2, Bool.or_true]
      · simp only [rk]
        rw [y3, if_pos (by omega)]
        omega
theorem rank_nth {a : List S41} (h : validS a = true) (x : Int) (hr : rk a x < szS a) : ∃ y, nthS a (rk a x) = some y ∧ memS a y = true ∧ x ≤ y ∧ (memS a x = true → y = x) := by
  have ha := (asc_valid h).2
  obtain ⟨y, y1, y2, y3, _⟩ := nth_rank a _ (rk a x) ha (rk_bound a _ x ha (by omega)).1 hr
  have hxy : x ≤ y := by
    apply Int.not_lt.1
    intro c
    have s1 := rk_step a _ y ha
    rw [if_pos y2] at s1
    have s2 := rk_mono a _ (y + 1) x ha (by omega)
    omega
  refine ⟨y, y1, y2, hxy, fun hx => ?_⟩
  apply Int.le_antisymm _ hxy
  apply Int.not_lt.1
  intro c
  have s1 := rk_step a _ x ha
  rw [if_pos hx] at s1
  have s2 := rk_mono a _ (x + 1) y ha (by omega)
  omega
theorem incl_excl {a b u v : List S41} (ha : validS a = true) (hb : validS b = true) (hu : validS u = true) (hv : validS v = true) (hm : ∀ x, memS u x = (memS a x || memS b x)) (hn : ∀ x, memS v x = (memS a x && memS b x)) :
    ∀ n : Nat, rk u (-1099511627776 + (n : Int)) + rk v (-1099511627776 + (n : Int)) = rk a (-1099511627776 + (n : Int)) + rk b (-1099511627776 + (n : Int))
  | 0 => by
    rw [rk_low u _ _ (asc_valid hu).2 (by omega), rk_low v _ _ (asc_valid hv).2 (by omega), rk_low a _ _ (asc_valid ha).2 (by omega), rk_low b _ _ (asc_valid hb).2 (by omega)]
  | n + 1 => by
    have ih := incl_excl ha hb hu hv hm hn n
    have e : (-1099511627776 : Int) + ((n + 1 : Nat) : Int) = (-1099511627776 + (n : Int)) + 1 := by omega
    rw [e, rk_step u _ _ (asc_valid hu).2, rk_step v _ _ (asc_valid hv).2, rk_step a _ _ (asc_valid ha).2, rk_step b _ _ (asc_valid hb).2, hm, hn]
    cases memS a (-1099511627776 + (n : Int)) <;> cases memS b (-1099511627776 + (n : Int)) <;> simp <;> omega
theorem sizes {a b u v : List S41} (ha : validS a = true) (hb : validS b = true) (hu : validS u = true) (hv : validS v = true) (hm : ∀ x, memS u x = (memS a x || memS b x)) (hn : ∀ x, memS v x = (memS a x && memS b x)) : szS u + szS v = szS a + szS b := by
  have h := incl_excl ha hb hu hv hm hn 2199023255552
  have e : (-1099511627776 : Int) + ((2199023255552 : Nat) : Int) = 1099511627776 := by omega
  rw [e, size_rk ha, size_rk hb, size_rk hu, size_rk hv] at h
  exact h
/-- The calls that the law makes, asx what they answer. -/
def SizeIs (l : List S41) (n : Int) : Prop := ∃ k, span_Size.f k l = some (n, 0)
def RankIs (l : List S41) (x n : Int) : Prop := ∃ k, span_Rank.f k l x = some (n, 0)
def NthIs (l : List S41) (i y e : Int) : Prop := ∃ k, span_Nth.f k l i = some (y, e)
theorem size_is {a : List S41} (h : validS a = true) : SizeIs a (szS a) := by
  have h1 := spanSize_ev a (by have := (asc_valid h).1; omega)
  have e : rankR a 1099511627776 = (szS a, 0) := by unfold rankR; rw [if_pos h, (size_eq h).1]
  rw [e] at h1
  exact h1.rounds
theorem rank_is {a : List S41} (h : validS a = true) (x : Int) : RankIs a x (rk a x) := by
  have h1 := spanRank_ev a x (by have := (asc_valid h).1; omega)
  have e : rankR a x = (rk a x, 0) := by unfold rankR; rw [if_pos h, rank_valid h]
  rw [e] at h1
  exact h1.rounds
theorem nth_is {a : List S41} (h : validS a = true) (i : Int) (hi : i ≤ 9223372036854775807) : NthIs a i (nthR a i).1 (nthR a i).2 := (spanNth_ev a i (by have := (asc_valid h).1; omega) hi).rounds
theorem nth_in {a : List S41} (h : validS a = true) {i : Int} (h0 : 0 ≤ i) (h1 : i < szS a) : ∃ y, NthIs a i y 0 ∧ memS a y = true ∧ rk a y = i := by
  obtain ⟨y, y1, y2, y3, _⟩ := nth_rank a _ i (asc_valid h).2 h0 h1
  have hb := (size_eq h).2.2
  have hn := nth_is h i (by omega)
  have e : nthR a i = (y, 0) := by unfold nthR; rw [if_pos h, if_neg (by omega), y1]; rfl
  rw [e] at hn
  exact ⟨y, hn, y2, y3⟩
theorem nth_out {a : List S41} (h : validS a = true) {i : Int} (hi : i ≤ 9223372036854775807) (h1 : ¬(0 ≤ i ∧ i < szS a)) : NthIs a i 0 6 := by
  have hn := nth_is h i hi
  have e : nthR a i = (0, 6) := by
    unfold nthR
    rw [if_pos h]
    by_cases c : i < 0
    · rw [if_pos c]
    · rw [if_neg c, nthS_none a _ i (asc_valid h).2 (by omega)]
      rfl
  rw [e] at hn
  exact hn
theorem text_back {a : List S41} (h : validS a = true) : ∃ s, (∃ k, span_Text.f k a = some (s, 0)) ∧ s.size < 4294967281 ∧ ∃ k, span_Parse.f k s = some (a, 0) := by
  have hl := (asc_valid h).1
  have h1 := text_ev a (by omega)
  have e : textR a = (bts (textB a), 0) := by unfold textR; rw [if_pos h]
  rw [e] at h1
  have hc : Canon (bts (textB a)) a := ⟨h, by simp [bts_list]⟩
  have hsz : (bts (textB a)).size ≤ 1000000 := by
    by_cases h0 : a = []
    · subst h0; decide
    · have h3 := joinTo_len h a.length (Nat.le_refl _)
      rw [bts_size]
      unfold textB
      rw [if_neg h0]
      unfold joinTo at h3
      rw [List.take_length] at h3
      omega
  refine ⟨_, h1.rounds, by omega, ?_⟩
  rcases parse_ev _ hsz with ⟨b, hb, hp⟩ | ⟨hno, _⟩
  · obtain rfl := canon_one hc hb
    exact hp.rounds
  · exact absurd hc (hno a)
theorem cnt_facts (l0 l1 : List S41) (x i : Int) (hx : x ≤ 9223372036854775807) (hi : i ≤ 9223372036854775807) (h0 : l0.length ≤ 9223372036854775807) (h1 : l1.length ≤ 9223372036854775807) :
    ∃ k0 k1 a b u v nu nv na nb r y f z e k q t s, kimberlitelaw01_sets.f k0 l0 = some a ∧ kimberlitelaw01_sets.f k1 l1 = some b ∧ a.length ≤ 128 ∧ some (twoR 0 a b) = some (u, 0) ∧ some (twoR 1 a b) = some (v, 0) ∧
      SizeIs u nu ∧ SizeIs v nv ∧ SizeIs a na ∧ SizeIs b nb ∧ (wrap64 (nu + nv) == wrap64 (na + nb)) = true ∧
      RankIs a x r ∧ NthIs a r y f ∧ HasIs a x q ∧ ((f = 0 ∧ r < na ∧ ¬ y < x ∧ (q = true → y = x)) ∨ (f = 6 ∧ ¬ r < na)) ∧
      NthIs a i z e ∧ RankIs a z k ∧ HasIs a z t ∧ ((e = 0 ∧ 0 ≤ i ∧ i < na ∧ k = i ∧ t = true) ∨ (e = 6 ∧ ¬(0 ≤ i ∧ i < na))) ∧
      (∃ k, span_Text.f k a = some (s, 0)) ∧ s.size < 4294967281 ∧ ∃ k, span_Parse.f k s = some (a, 0) := by
  obtain ⟨sa, va, na⟩ := sets_ev l0 h0
  obtain ⟨sb, vb, nb⟩ := sets_ev l1 h1
  generalize setsL l0 = a at sa va na
  generalize setsL l1 = b at sb vb nb
  obtain ⟨k0, sa⟩ := sa.rounds
  obtain ⟨k1, sb⟩ := sb.rounds
  obtain ⟨e1, v1, n1⟩ := twoR_few 0 (by decide) va vb (by omega)
  obtain ⟨e2, v2, n2⟩ := twoR_few 1 (by decide) va vb (by omega)
  have hs := sizes va vb v1 v2 (fun x => made_mem 0 va vb x) (fun x => made_mem 1 va vb x)
  have zb := size_eq va
  have hrb := rk_bound a _ x (asc_valid va).2 (by omega)
  obtain ⟨s, t1, t2, t3⟩ := text_back va
  have hn : ∃ y f, NthIs a (rk a x) y f ∧ ((f = 0 ∧ rk a x < szS a ∧ ¬ y < x ∧ (memS a x = true → y = x)) ∨ (f = 6 ∧ ¬ rk a x < szS a)) := by
    by_cases c : rk a x < szS a
    · obtain ⟨y, y1, _, y2, y3⟩ := rank_nth va x c
      obtain ⟨y', g1, g2, g3⟩ := nth_in va hrb.1 c
      have hn := nth_is va (rk a x) (by omega)
      have ee : nthR a (rk a x) = (y, 0) := by unfold nthR; rw [if_pos va, if_neg (by omega), y1]; rfl
      rw [ee] at hn
      exact ⟨y, 0, hn, .inl ⟨rfl, c, by omega, y3⟩⟩
    · exact ⟨0, 6, nth_out va (by omega) (fun g => c g.2), .inr ⟨rfl, c⟩⟩
  obtain ⟨y, f, y1, y2⟩ := hn
  have hz : ∃ z e k t, NthIs a i z e ∧ RankIs a z k ∧ HasIs a z t ∧ ((e = 0 ∧ 0 ≤ i ∧ i < szS a ∧ k = i ∧ t = true) ∨ (e = 6 ∧ ¬(0 ≤ i ∧ i < szS a))) := by
    by_cases c : 0 ≤ i ∧ i < szS a
    · obtain ⟨z, g1, g2, g3⟩ := nth_in va c.1 c.2
      exact ⟨z, 0, rk a z, memS a z, g1, rank_is va z, has_is va z, .inl ⟨rfl, c.1, c.2, g3, g2⟩⟩
    · exact ⟨0, 6, _, _, nth_out va hi c, rank_is va 0, has_is va 0, .inr ⟨rfl, c⟩⟩
  obtain ⟨z, e, k, t, z1, z2, z3, z4⟩ := hz
  refine ⟨k0, k1, a, b, madeL 0 a b, madeL 1 a b, szS (madeL 0 a b), szS (madeL 1 a b), szS a, szS b, rk a x, y, f, z, e, k, memS a x, t, s, sa, sb, by omega, by rw [e1], by rw [e2], size_is v1, size_is v2, size_is va, size_is vb, by rw [hs]; exact beq_iff_eq.mpr rfl, rank_is va x, y1, has_is va x, y2, z1, z2, z3, z4, t1, t2, t3⟩
theorem wf_le {x : Int} (h : (Lit.int .i64 x).wf = true) : x ≤ 9223372036854775807 := by
  simp only [Lit.wf, Bool.and_eq_true, decide_eq_true_eq] at h
  exact h.2
/-- The calls at the walk's own places. -/
theorem size_at (A : Option Addr) (c : Nat) (l : List S41) (n : Int) (w : World) (hr : Kd.C k41 w A l.length l) (hc : l.length ≤ c) (h : SizeIs l n) : Calls Tryz.prog 15 #[.slice A l.length c] w fun e w' => e = .returned (.tuple #[.int .i64 n, .int .i64 0]) ∧ Below w.heap.size w w' := by
  obtain ⟨k, hk⟩ := h
  exact span_Size.calls k A c l n 0 w hr hc hk
theorem rank_at (A : Option Addr) (c : Nat) (l : List S41) (x n : Int) (w : World) (hr : Kd.C k41 w A l.length l) (hc : l.length ≤ c) (h : RankIs l x n) : Calls Tryz.prog 16 #[.slice A l.length c, .int .i64 x] w fun e w' => e = .returned (.tuple #[.int .i64 n, .int .i64 0]) ∧ Below w.heap.size w w' := by
  obtain ⟨k, hk⟩ := h
  exact (span_Rank.calls k A c l x n 0 w hr hc hk).mono fun e w' h => ⟨h.1, h.2⟩
theorem nth_at (A : Option Addr) (c : Nat) (l : List S41) (i y e : Int) (w : World) (hr : Kd.C k41 w A l.length l) (hc : l.length ≤ c) (h : NthIs l i y e) : Calls Tryz.prog 17 #[.slice A l.length c, .int .i64 i] w fun e' w' => e' = .returned (.tuple #[.int .i64 y, .int .i64 e]) ∧ Below w.heap.size w w' := by
  obtain ⟨k, hk⟩ := h
  exact (span_Nth.calls k A c l i y e w hr hc hk).mono fun e w' h => ⟨h.1, h.2⟩
end Go.Proofs.YtmomcbhgggggnaaGreatDoor.Pr
end
section
namespace Go.Proofs.YtmomcbhgggggnaaGreatDoor.Pr
open Go.RowKit Go.Sort Go.Proofs.YtmomcbhgggggnaaGreatDoorW.PrintWords Go.Proofs.YtmomcbhgggggnaaGreatDoorW.PrintLast Go.Proofs.YtmomcbhgggggnaaGreatDoorW.PrintMore
set_option linter.unusedVariables false
set_option linter.unusedSimpArgs false
def RowI (w : World) (base : Nat) (v : Value) (l : List Int) : Prop := w.ownsRow base 3 1 v l.length (l.map (Value.int .i64))
theorem row_slice {w : World} {base : Nat} {v : Value} {l : List Int} (h : RowI w base v l) : ∃ A c, v = .slice A l.length c := by
  rcases h.2 with ⟨rfl, h0⟩ | ⟨g, cap, cur, rfl, _⟩
  · exact ⟨none, 0, by simp at h0; simp [h0]⟩
  · exact ⟨_, _, rfl⟩
theorem row_base {w : World} {base : Nat} {v : Value} {l : List Int} (h : RowI w base v l) : ∀ k, v.ownBlock = some k → base ≤ k := by
  rcases h.2 with ⟨rfl, h0⟩ | ⟨g, cap, cur, rfl, hb, _⟩
  · intro k hk; simp [Value.ownBlock] at hk
  · intro k hk; simp [Value.ownBlock] at hk; omega
theorem row_snoc2 {w : World} {base : Nat} {v : Value} {l : List Int} {x y : Int} (h : w.ownsRow base 3 1 v (l.length + 2) (l.map (Value.int .i64) ++ [.int .i64 x, .int .i64 y])) : RowI w base v (l ++ [x, y]) := by
  unfold RowI
  simpa using h
theorem row_some {w : World} {base : Nat} {v : Value} {l : List Int} (h : RowI w base v l) (hne : l ≠ []) : ∃ g c cur, v = .slice (some ⟨g, 0, none⟩) l.length c ∧ base ≤ g ∧ w.heap[g]? = some (.cells cur 3 (0, 0)) ∧ l.length ≤ c ∧ c ≤ maxLen ∧ cur.size = c ∧ cur.toList.take l.length = l.map (Value.int .i64) := by
  rcases h.2 with ⟨rfl, h0⟩ | ⟨g, cap, cur, rfl, h1, h2, h3, h4, h5, h6⟩
  · exact absurd (List.eq_nil_of_length_eq_zero h0) hne
  · exact ⟨g, cap, cur, rfl, h1, h2, h3, h4, by omega, by simpa using h6⟩
theorem cur_at {cur : Array Value} {l : List Int} (h : cur.toList.take l.length = l.map (Value.int .i64)) (j : Nat) (hj : j < l.length) : cur[j]? = some (.int .i64 l[j]) := by
  have := congrArg (fun z => z[j]?) h
  simp only [List.getElem?_take, if_pos hj, List.getElem?_map, List.getElem?_eq_getElem hj, Option.map_some] at this
  simpa using this
theorem row_holds {w : World} {g : Nat} {cur : Array Value} {l : List Int} (hb : w.heap[g]? = some (.cells cur 3 (0, 0))) (h : cur.toList.take l.length = l.map (Value.int .i64)) : Holds (Value.int .i64) w g 0 l.toArray := by
  intro j hj
  have hj' : j < l.length := by simpa using hj
  refine ⟨?_, blk_frozen hb _⟩
  rw [blk_cell hb, Nat.zero_add, cur_at h j hj', getElem!_pos l.toArray j hj]
  simp
theorem putRow_id (w : World) (g : Nat) (d : List Int) : putRow (Value.int .i64) w g 0 d.toArray = putRow id w g 0 (d.map (Value.int .i64)).toArray := by
  unfold putRow
  congr 1
  funext c
  unfold putCells
  congr 1
  funext k x
  simp only [Nat.zero_le, true_and, Nat.zero_add, Nat.sub_zero, List.size_toArray, List.length_map, id]
  by_cases hk : k < d.length
  · rw [if_pos hk, if_pos hk, getElem!_pos d.toArray k (by simpa using hk), getElem!_pos (d.map (Value.int .i64)).toArray k (by simpa using hk)]
    simp
  · rw [if_neg hk, if_neg hk]
/-- Laid anew it is owned again; its first m numbers are owned by the slice cut to m. -/
theorem row_put {w : World} {base g c : Nat} {cur : Array Value} {d : List Int} {n : Nat} (m : Nat) (os : Array Obj) (h1 : base ≤ g) (h2 : w.heap[g]? = some (.cells cur 3 (0, 0))) (h3 : n ≤ c) (h4 : c ≤ maxLen) (h5 : cur.size = c) (hd : d.length = n) (q : Nat) (hq : q ≤ n) :
    RowI (grow (putRow (Value.int .i64) (Sort.ahead w m) g 0 d.toArray) os) base (.slice (some ⟨g, 0, none⟩) q c) (d.take q) ∧ w.grownBy (grow (putRow (Value.int .i64) (Sort.ahead w m) g 0 d.toArray) os) (some g) := by
  rw [putRow_id]
  refine ⟨?_, grownBy_put _⟩
  have := own_put (w := w) (base := base) (g := g) (cap := c) (n := n) (k := 1) (m := m) (e := 3) (os := os) (cur := cur) (ts := d.map (Value.int .i64)) h1 h2 h3 h4 (by omega) (by simp [hd])
  rcases this with ⟨_, ⟨e, _⟩ | ⟨g', cap', cur', e, a1, a2, a3, a4, a5, a6⟩⟩
  · cases e
  · injection e with e1 _ e3
    injection e1 with e1
    injection e1 with e1
    subst e1 e3
    have hlen : (d.take q).length = q := by rw [List.length_take]; omega
    refine ⟨by simp, .inr ⟨g, c, cur', by rw [hlen], a1, a2, by omega, a4, a5, ?_⟩⟩
    rw [hlen, Nat.mul_one, List.map_take, ← a6, List.take_take]
    congr 1
    omega
end Go.Proofs.YtmomcbhgggggnaaGreatDoor.Pr
end
