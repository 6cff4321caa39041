/- What the proof of the law needs, trimmed and merged by wip/pack.py out of the texts YtningpmoojnomaaPrx3, YtningpmoojnomaaPrx6, YtningpmoojnomaaMath, YtningpmoojnomaaExtClone, YtningpmoojnomaaBridge, YtningpmoojnomaaShelf, YtningpmoojnomaaExtOf, YtningpmoojnomaaSets, YtningpmoojnomaaSetm, YtningpmoojnomaaCov, YtningpmoojnomaaFew, YtningpmoojnomaaPrx1, YtningpmoojnomaaPrx4. No condition. -/
import Derived.Lib.SliceRun
import Derived.Shelf.SlSortCmp.NoneTotal
import Derived.Shelf.Sort.Plain
import Derived.Shelf.Small.Wraps
import Derived.Ground.Names2Prog
import Derived.Shelf.Slices.CompactI
import Derived.Shelf.Slices.In.SortNone
import Derived.Ground.SlsfProg
import Derived.Shelf.SlSortCmp.Insertion
import Derived.Shelf.SlSortCmp.Insertion1
import Derived.Test.YtningpmoojnomaaProg
import Derived.Test.YtningpmoojnomaaKSpanFewest0
import Derived.Test.YtningpmoojnomaaKSpanFewest1
import Derived.Test.YtningpmoojnomaaKSpanFewest2
section
namespace Go.Proofs.Ytningpmoojnomaa.Pr
open Go.RowKit Go.Proofs.YtningpmoojnomaaW.PrintWords Go.Proofs.YtningpmoojnomaaW.PrintLast Go.Proofs.YtningpmoojnomaaW.PrintMore
attribute [local go_sem] max2_int min2_int max_two min_two max_three min_three max_four min_four   -- for this text's walks alone
set_option linter.unusedVariables false
set_option linter.unusedSimpArgs false
mutual
def span_joined.l0 : Nat → List (S32) → List (S32) → Int → Int → Option ((List (S32)))
 | 0, _, _, _, _ => none
 | k + 1, x3, x7, x8, x9 => if x9 < x8 then (if 0 ≤ x9 then (if x9 < (x7.length : Int) then (if (x3.length : Int) > 0 then (if 0 ≤ (wrap64 ((x3.length : Int) - 1)) then (if (wrap64 ((x3.length : Int) - 1)) < (x3.length : Int) then (span_joined.j1 k x3 (x3.length : Int) x7 x8 x9 (decide (((rd_T32 x7 x9).f0) ≤ ((rd_T32 x3 (wrap64 ((x3.length : Int) - 1))).f1))) ((rd_T32 x7 x9).f0) ((rd_T32 x7 x9).f1)) else (none)) else (none)) else (span_joined.j1 k x3 (x3.length : Int) x7 x8 x9 false ((rd_T32 x7 x9).f0) ((rd_T32 x7 x9).f1))) else (none)) else (none)) else (some x3)
def span_joined.j1 : Nat → List (S32) → Int → List (S32) → Int → Int → Bool → Int → Int → Option ((List (S32)))
 | 0, _, _, _, _, _, _, _, _ => none
 | k + 1, x3, x6, x7, x8, x9, x27, x104000, x104001 => if x27 = true then (if 0 ≤ (wrap64 (x6 - 1)) then (if (wrap64 (x6 - 1)) < (x3.length : Int) then (span_joined.l0 k (x3.set ((wrap64 (x6 - 1)) : Int).toNat (⟨(rd_T32 x3 (wrap64 (x6 - 1))).f0, mx ((rd_T32 x3 (wrap64 (x6 - 1))).f1) x104001⟩ : S32)) x7 x8 (wrap64 (x9 + 1))) else (none)) else (none)) else (if x3.length < 8796093022208 then (span_joined.l0 k (x3 ++ [(⟨x104000, x104001⟩ : S32)]) x7 x8 (wrap64 (x9 + 1))) else (none))
end
def span_joined.f (k : Nat) (l0 : List (S32)) : Option ((List (S32))) := span_joined.l0 k ([] : List (S32)) l0 (l0.length : Int) 0
theorem span_joined.mono_l : ∀ k, (∀ y0 y1 y2 y3, LeO (span_joined.l0 k y0 y1 y2 y3) (span_joined.l0 (k + 1) y0 y1 y2 y3)) ∧ (∀ y0 y1 y2 y3 y4 y5 y6 y7, LeO (span_joined.j1 k y0 y1 y2 y3 y4 y5 y6 y7) (span_joined.j1 (k + 1) y0 y1 y2 y3 y4 y5 y6 y7))
 | 0 => ⟨fun _ _ _ _ r h => by simp [span_joined.l0] at h, fun _ _ _ _ _ _ _ _ r h => by simp [span_joined.j1] at h⟩
 | k + 1 => by
  obtain ⟨ih0, ih1⟩ := span_joined.mono_l k
  refine ⟨?_, ?_⟩
  · intro y0 y1 y2 y3
    unfold span_joined.l0
    repeat' first
    | (with_reducible exact ih0 _ _ _ _)
    | (with_reducible exact ih1 _ _ _ _ _ _ _ _)
    | (with_reducible exact LeO.refl _)
    | (with_reducible exact LeO.none _)
    | (with_reducible refine LeO.ite ?_ ?_)
    | (with_reducible refine LeO.bind ?_ (fun _ => ?_))
    | exact ih0 _ _ _ _
    | exact ih1 _ _ _ _ _ _ _ _
    | exact LeO.none _
    | refine LeO.ite ?_ ?_
    | refine LeO.bind ?_ (fun _ => ?_)
  · intro y0 y1 y2 y3 y4 y5 y6 y7
    unfold span_joined.j1
    repeat' first
    | (with_reducible exact ih0 _ _ _ _)
    | (with_reducible exact ih1 _ _ _ _ _ _ _ _)
    | (with_reducible exact LeO.refl _)
    | (with_reducible exact LeO.none _)
    | (with_reducible refine LeO.ite ?_ ?_)
    | (with_reducible refine LeO.bind ?_ (fun _ => ?_))
    | exact ih0 _ _ _ _
    | exact ih1 _ _ _ _ _ _ _ _
    | exact LeO.none _
    | refine LeO.ite ?_ ?_
    | refine LeO.bind ?_ (fun _ => ?_)
theorem span_joined.mono : ∀ a0 k, LeO (span_joined.f k a0) (span_joined.f (k + 1) a0) := by
 intro a0 k
 obtain ⟨ih0, ih1⟩ := span_joined.mono_l k
 unfold span_joined.f
 repeat' first
  | (with_reducible exact ih0 _ _ _ _)
  | (with_reducible exact ih1 _ _ _ _ _ _ _ _)
  | (with_reducible exact LeO.refl _)
  | (with_reducible exact LeO.none _)
  | (with_reducible refine LeO.ite ?_ ?_)
  | (with_reducible refine LeO.bind ?_ (fun _ => ?_))
  | exact ih0 _ _ _ _
  | exact ih1 _ _ _ _ _ _ _ _
  | exact LeO.none _
  | refine LeO.ite ?_ ?_
  | refine LeO.bind ?_ (fun _ => ?_)
def span_joined.T6 : Bool × List (List Nat × List Nat) := (true, [([], []), ([0], [0]), ([1], [1]), ([2], [2]), ([3, 2], [2, 3]), ([2], [2]), ([2], [2]), ([6, 2], [2, 6]), ([5, 7, 2], [2, 5, 7]), ([8, 2], [2, 8]), ([9, 2], [2, 9]), ([4, 10, 2], [2, 4, 10]), ([2, 11], [2, 11])])
def span_joined.B6 : List Nat := [0, 1, 3, 7, 15, 7, 7, 71, 231, 487, 999, 2047, 4095]
theorem span_joined.tab6 : rtab .any (opsOf Try.f69 6) = span_joined.T6 := by kernel_rfl
theorem span_joined.bits6 : waitsOk span_joined.T6.2 span_joined.B6 = true := by kernel_rfl
def span_joined.T7 : Bool × List (List Nat × List Nat) := (true, [([], []), ([], []), ([1], [1]), ([], []), ([], []), ([4], [4]), ([3, 5], [3, 5]), ([6], [6]), ([7], [7]), ([], []), ([9], [9]), ([8, 10], [8, 10]), ([0, 2, 0, 1, 2, 3, 4, 5, 6, 7, 8, 9, 10, 11], [0, 2]), ([12, 0, 1, 2, 3, 4, 5, 6, 7, 8, 9, 10, 11], [12]), ([13, 11, 0, 1, 2, 3, 4, 5, 6, 7, 8, 9, 10, 11], [11, 13])])
def span_joined.B7 : List Nat := [0, 0, 2, 0, 0, 16, 56, 120, 248, 0, 512, 2040, 4095, 8191, 16383]
theorem span_joined.tab7 : rtab .any (opsOf Try.f69 7) = span_joined.T7 := by kernel_rfl
theorem span_joined.bits7 : waitsOk span_joined.T7.2 span_joined.B7 = true := by kernel_rfl
set_option maxHeartbeats 8000000 in
set_option maxRecDepth 100000 in
theorem span_joined.calls (k : Nat) (A0 : Option Addr) (c0 : Nat) (l0 : List (S32)) (r : List (S32)) (w : World) (hr0 : Kd.C k32 w A0 l0.length l0) (hc0 : l0.length ≤ c0) (h : span_joined.f k l0 = some r) :
 Calls Try.prog 69 #[.slice A0 l0.length c0] w fun e w' => ∃ v0_ : Value, e = .returned (v0_) ∧ Kd.R k32 32 w' w.heap.size (fun _ => True) v0_ r ∧ Below w.heap.size w w' := by
 have hu32 := Try.underlying32
 have HR0 := Aside0.mk hr0
 have HC0 := Aside0.mk hc0
 clear hr0 hc0
 have HB := Aside0.mk (Below.refl w.heap.size w)
 have H : (span_joined.l0 k ([] : List (S32)) l0 (l0.length : Int) 0) = some r := h
 clear h
 have H' := Aside0.mk H
 clear H
 go_enter Try.func69, Try.ntmps69
 go_wp2
 go_loopg [3, 9] k (fun kq v3 v9 w' => ∃ (x3_1 : List (S32)) (x9_1 : Int), v9 = .int .i64 x9_1 ∧ Aside0 (span_joined.l0 kq x3_1 l0 (l0.length : Int) x9_1 = some r) ∧ Aside0 (kq ≤ k) ∧ Aside0 (Kd.R k32 32 w' w.heap.size (fun _ => True) v3 x3_1) ∧ Aside0 (Below w.heap.size w w'))
 case atStart => exact ⟨(([] : List (S32))), (0), (by first | rfl | (simp; done) | (simp [*]; done)), H', ⟨Nat.le_refl _⟩, ⟨by first | exact Kd.R_nil _ _ _ _ _ | exact Kd.N_nil _ _ _ _ _ | exact Kd.V_nil _ _ _ _ _ | exact Kd.Q_nil _ _ _ _ _ | exact Kd.S_nil _ _ _ _ _⟩, ⟨by repeat (first | (with_reducible first | exact HB.out | apply below_alloc | apply pw_below_drewN | apply below_drew1) | exact HB.out)⟩⟩
 case round =>
  clear H'
  obtain ⟨x3_1, x9_1, rfl, HA, HK1, HO_3, HB⟩ := hrel
  cases gk with
  | zero => exact absurd HA.out (by simp [span_joined.l0])
  | succ k1 =>
   have H := HA.out
   clear HA
   simp only [span_joined.l0] at H
   by_cases c2 : x9_1 < (l0.length : Int)
   · rw [if_pos c2] at H
     have c2b0 : decide (x9_1 < (l0.length : Int)) = true := decide_eq_true c2
     clear c2
     by_cases c3 : 0 ≤ x9_1
     · rw [if_pos c3] at H
       have c3b0 : decide (0 ≤ x9_1) = true := decide_eq_true c3
       clear c3
       by_cases c4 : x9_1 < (l0.length : Int)
       · rw [if_pos c4] at H
         have c4b0 : decide (x9_1 < (l0.length : Int)) = true := decide_eq_true c4
         clear c4
         have HC5 := Aside0.mk H
         clear H
         have p102 : 0 ≤ (x9_1 : Int) := of_decide_eq_true (by first | (with_reducible assumption) | assumption)
         have q102 : x9_1 < (l0.length : Int) := of_decide_eq_true (by first | (with_reducible assumption) | assumption)
         obtain ⟨ad102, e102, hx102_0, hx102_1⟩ := at_T32 HR0.out x9_1 p102 q102
         cases e102
         replace hx102_0 := (HB.out.cell (World.block_lt_of_cell? w _ hx102_0)).trans hx102_0
         replace hx102_1 := (HB.out.cell (World.block_lt_of_cell? w _ hx102_1)).trans hx102_1
         replace p102 := eq_true p102
         replace q102 := eq_true q102
         go_upto_region 6 with (first | ((with_reducible refine gate_dst (N := 5) rfl ?_); refine box_event ?hg (N := 5) ?hd (cs := #[.int .i64 0, .int .i64 0]) (t := 32) ?hr ?_; (case hd => rfl); (case hg => rfl); (case hr => first | (go_simp; done) | (go_simp; rfl)); intro gb103 hg w6 hbox hb; have n0_ := Aside0.mk (Kd.R_below (Kd.R_elderB (by (with_reducible repeat (first | apply Kd.R_alloc | apply Kd.R_drewN | apply Kd.R_drew)); exact HO_3.out) gb103 (Nat.le_of_eq hg.symm)) hb); have n1_ := Aside0.mk (below_step (by repeat (first | (with_reducible first | exact HB.out | apply below_alloc | apply pw_below_drewN | apply below_drew1) | exact HB.out)) hb); have n2_ := Aside0.mk (hbox); have n3_ := Aside0.mk ((by rw [hg]; exact (below_size (by repeat (first | (with_reducible first | exact HB.out | apply below_alloc | apply pw_below_drewN | apply below_drew1) | exact HB.out))) : w.heap.size ≤ gb103)); have n4_ := Aside0.mk ((by rw [hg]; exact (below_size (by repeat (first | (with_reducible first | exact HB.out | apply below_alloc | apply pw_below_drewN | apply below_drew1) | exact HB.out))) : w.heap.size ≤ gb103)); clear HO_3; clear HB; have HO_3 := n0_; have HB := n1_; have BK103 := n2_; have GW103 := n3_; have GE103 := n4_; clear n0_ n1_ n2_ n3_ n4_; clear hb hbox hg; have hcz7_0 : w6.cell? ⟨gb103, 0, none⟩ = some (.int .i64 0) := (blk_cell BK103.out 0).trans rfl; have hcz7_1 : w6.cell? ⟨gb103, 1, none⟩ = some (.int .i64 0) := (blk_cell BK103.out 1).trans rfl; have hfz7_0 := blk_frozen BK103.out 0; have hfz7_1 := blk_frozen BK103.out 1; obtain ⟨Ao8, co8, eo8⟩ := Kd.R_slice HO_3.out; subst eo8))
         (try simp only [Act.put, List.setIfInBounds_toArray, List.set_cons_zero, List.set_cons_succ])
         go_cut [27] (fun v27 wc => ∃ (kq : Nat) (x27_4 : Bool), v27 = .bool x27_4 ∧ Aside0 (span_joined.j1 kq x3_1 (x3_1.length : Int) l0 (l0.length : Int) x9_1 x27_4 ((rd_T32 l0 x9_1).f0) ((rd_T32 l0 x9_1).f1) = some r) ∧ Aside0 (kq ≤ k1) ∧ Aside0 (Kd.R k32 32 wc w.heap.size (fun k_ => k_ ≠ gb103) (.slice Ao8 x3_1.length co8) x3_1) ∧ Aside0 (wc.heap[gb103]? = some (.cells #[.int .i64 ((rd_T32 l0 x9_1).f0), .int .i64 ((rd_T32 l0 x9_1).f1)] 32 (0, 0))) ∧ Aside0 (Below w.heap.size w wc))
         case first =>
          have H := HC5.out
          clear HC5
          by_cases c9 : (x3_1.length : Int) > 0
          · rw [if_pos c9] at H
            have c9b0 : decide (0 < (x3_1.length : Int)) = true := decide_eq_true c9
            have c9b1 : decide (0 < x3_1.length) = true := decide_eq_true (by omega)
            clear c9
            (first | rw [c9b0] | (simp only [i64_w, i32_w]; rw [c9b0]) | skip)
            obtain ⟨ji10, hji10⟩ : ∃ j_ : Int, (wrap64 ((x3_1.length : Int) - 1)) = j_ := ⟨_, rfl⟩
            replace H : (if 0 ≤ (ji10) then (if (ji10) < (x3_1.length : Int) then (span_joined.j1 k1 x3_1 (x3_1.length : Int) l0 (l0.length : Int) x9_1 (decide (((rd_T32 l0 x9_1).f0) ≤ ((rd_T32 x3_1 (ji10)).f1))) ((rd_T32 l0 x9_1).f0) ((rd_T32 l0 x9_1).f1)) else (none)) else (none)) = some r := by first | (rw [hji10] at H; exact H) | (simp only [hji10] at H ⊢; exact H)
            have hji10w : (IntKind.i64.wrap ((x3_1.length : Int) - 1)) = ji10 := (i64_w _).trans hji10
            by_cases c11 : 0 ≤ (ji10)
            · rw [if_pos c11] at H
              have c11b0 : decide (0 ≤ (ji10)) = true := decide_eq_true c11
              clear c11
              by_cases c12 : (ji10) < (x3_1.length : Int)
              · rw [if_pos c12] at H
                have c12b0 : decide ((ji10) < (x3_1.length : Int)) = true := decide_eq_true c12
                clear c12
                have H' := Aside0.mk H
                clear H
                try go_wp2
                have n0_ : Aside0 (Kd.R k32 32 ((w6.setCell ⟨gb103, 0, none⟩ (.int .i64 ((rd_T32 l0 x9_1).f0))).setCell ⟨gb103, 1, none⟩ (.int .i64 ((rd_T32 l0 x9_1).f1))) w.heap.size (fun k_ => k_ ≠ gb103) (.slice Ao8 x3_1.length co8) x3_1) := ⟨by (with_reducible repeat (first | apply Kd.R_alloc | apply Kd.R_drewN | apply Kd.R_drew)); exact Kd.R_mono (Kd.R_far (p := ⟨gb103, 1, none⟩) (Kd.R_far (p := ⟨gb103, 0, none⟩) (Kd.R_mono HO_3.out (fun k_ hk => (⟨hk, hk.2⟩ : _ ∧ k_ ≠ gb103))) (fun _ hk => hk.2) (.int .i64 ((rd_T32 l0 x9_1).f0))) (fun _ hk => hk.2) (.int .i64 ((rd_T32 l0 x9_1).f1))) (fun _ hk => hk.1.2)⟩
                have n1_ : Aside0 (((w6.setCell ⟨gb103, 0, none⟩ (.int .i64 ((rd_T32 l0 x9_1).f0))).setCell ⟨gb103, 1, none⟩ (.int .i64 ((rd_T32 l0 x9_1).f1))).heap[gb103]? = some (.cells #[.int .i64 ((rd_T32 l0 x9_1).f0), .int .i64 ((rd_T32 l0 x9_1).f1)] 32 (0, 0))) := ⟨by (with_reducible repeat (first | refine blk_drewN ?_ _ | refine blk_drew ?_ | refine blk_alloc ?_ _)); refine blk_put (cs := #[.int .i64 ((rd_T32 l0 x9_1).f0), .int .i64 0]) ?_ 1 _ rfl; (with_reducible repeat (first | refine blk_drewN ?_ _ | refine blk_drew ?_ | refine blk_alloc ?_ _)); refine blk_put (cs := #[.int .i64 0, .int .i64 0]) ?_ 0 _ rfl; (with_reducible repeat (first | refine blk_drewN ?_ _ | refine blk_drew ?_ | refine blk_alloc ?_ _)); exact BK103.out⟩
                have n2_ : Aside0 (Below w.heap.size w ((w6.setCell ⟨gb103, 0, none⟩ (.int .i64 ((rd_T32 l0 x9_1).f0))).setCell ⟨gb103, 1, none⟩ (.int .i64 ((rd_T32 l0 x9_1).f1)))) := ⟨by repeat (first | (with_reducible first | exact HB.out | apply below_alloc | apply pw_below_drewN | apply below_drew1 | refine below_set ?_ GE103.out) | exact HB.out)⟩
                (try clear HO_3)
                (try clear BK103)
                (try clear HB)
                generalize ((w6.setCell ⟨gb103, 0, none⟩ (.int .i64 ((rd_T32 l0 x9_1).f0))).setCell ⟨gb103, 1, none⟩ (.int .i64 ((rd_T32 l0 x9_1).f1))) = w13 at n0_ n1_ n2_ ⊢
                have HO_3 := n0_
                have BK103 := n1_
                have HB := n2_
                clear n0_ n1_ n2_
                have n0_ := Aside0.mk (Kd.R_drew HO_3.out)
                have n1_ := Aside0.mk (blk_drew BK103.out)
                have n2_ := Aside0.mk (below_drew1 HB.out)
                clear HO_3
                clear BK103
                clear HB
                have HO_3 := n0_
                have BK103 := n1_
                have HB := n2_
                clear n0_ n1_ n2_
                have p104 : 0 ≤ ((ji10) : Int) := of_decide_eq_true (by first | (with_reducible assumption) | assumption)
                have q104 : (ji10) < (x3_1.length : Int) := of_decide_eq_true (by first | (with_reducible assumption) | assumption)
                obtain ⟨ad104, e104, hx104_0, hx104_1⟩ := at_T32 (Kd.R_reads' HO_3.out).2.2 (ji10) p104 q104
                cases e104
                replace p104 := eq_true p104
                replace q104 := eq_true q104
                refine start_ (n := 13) (S := fun w' => w'.cell? ⟨gb103, 0, none⟩ = some (.int .i64 ((rd_T32 l0 x9_1).f0)) ∧ w'.cell? ⟨gb103, 1, none⟩ = some (.int .i64 ((rd_T32 l0 x9_1).f1)) ∧ w'.cell? (ad104.add (((ji10)).toNat * 2)) = some (.int .i64 ((rd_T32 x3_1 (ji10)).f0)) ∧ w'.cell? ⟨(ad104.add (((ji10)).toNat * 2)).block, (ad104.add (((ji10)).toNat * 2)).off + 1, none⟩ = some (.int .i64 ((rd_T32 x3_1 (ji10)).f1))) (ds := []) #[false, false, false, false, false, false, false, false, false, false, false, false, false] (by kernel_rfl) rfl rfl ⟨(blk_cell BK103.out 0).trans rfl, (blk_cell BK103.out 1).trans rfl, hx104_0, hx104_1⟩ (fun hHeld => ?_); refine with_tabW span_joined.tab6 span_joined.bits6 (fun HT_ HW_ => ?_)
                generalize w13.drew = w14 at HO_3 BK103 HB hx104_0 hx104_1 hHeld ⊢
                refine pure_ (i := 0) (N := some 15) (v := ?_) (a' := ?_) #[true, false, false, false, false, false, false, false, false, false, false, false, false] rfl rfl (any_of HT_.out (by kernel_rfl)) (fun _ _ _ h => h) (Or.inl ⟨by rfl, ?_⟩) ?_ ?_
                rotate_left
                · intro w'
                  go_simp
                  with_reducible rfl
                rotate_left
                · simp only [Act.put, List.setIfInBounds_toArray, List.set_cons_zero, List.set_cons_succ, i64_w, i32_w]
                  rfl
                refine pure_ (i := 1) (N := some 16) (v := ?_) (a' := ?_) #[true, true, false, false, false, false, false, false, false, false, false, false, false] rfl rfl (any_of HT_.out (by kernel_rfl)) (fun _ _ _ h => h) (Or.inl ⟨by rfl, ?_⟩) ?_ ?_
                rotate_left
                · intro w'
                  go_simp
                  with_reducible rfl
                rotate_left
                · simp only [Act.put, List.setIfInBounds_toArray, List.set_cons_zero, List.set_cons_succ, i64_w, i32_w]
                  rfl
                refine pure_ (i := 2) (N := some 17) (v := ?_) (a' := ?_) #[true, true, true, false, false, false, false, false, false, false, false, false, false] rfl rfl (any_of HT_.out (by kernel_rfl)) (fun _ _ _ h => h) (Or.inl ⟨by rfl, ?_⟩) ?_ ?_
                rotate_left
                · intro w'
                  go_simp
                  with_reducible rfl
                rotate_left
                · simp only [Act.put, List.setIfInBounds_toArray, List.set_cons_zero, List.set_cons_succ, i64_w, i32_w]
                  rfl
                refine pure_ (i := 3) (N := some 18) (v := ?_) (a' := ?_) #[true, true, true, true, false, false, false, false, false, false, false, false, false] rfl rfl (any_of HT_.out (by kernel_rfl)) (fun _ _ _ h => h) (Or.inl ⟨by rfl, ?_⟩) ?_ ?_
                rotate_left
                · intro w'
                  go_simp
                  with_reducible rfl
                rotate_left
                · simp only [Act.put, List.setIfInBounds_toArray, List.set_cons_zero, List.set_cons_succ, i64_w, i32_w]
                  rfl
                refine pure_ (i := 5) (N := some 20) (v := ?_) (a' := ?_) #[true, true, true, true, false, true, false, false, false, false, false, false, false] rfl rfl (any_of HT_.out (by kernel_rfl)) (fun _ _ _ h => h) (Or.inl ⟨by rfl, ?_⟩) ?_ ?_
                rotate_left
                · intro w'
                  go_simp
                  with_reducible rfl
                rotate_left
                · simp only [Act.put, List.setIfInBounds_toArray, List.set_cons_zero, List.set_cons_succ, i64_w, i32_w]
                  rfl
                refine pure_ (i := 6) (N := some 21) (v := ?_) (a' := ?_) #[true, true, true, true, false, true, true, false, false, false, false, false, false] rfl rfl (any_of HT_.out (by kernel_rfl)) (fun _ _ _ h => h) (Or.inl ⟨by rfl, ?_⟩) ?_ ?_
                rotate_left
                · intro w'
                  go_simp
                  with_reducible rfl
                rotate_left
                · simp only [Act.put, List.setIfInBounds_toArray, List.set_cons_zero, List.set_cons_succ, i64_w, i32_w]
                  rfl
                refine pure_ (i := 7) (N := some 22) (v := ?_) (a' := ?_) #[true, true, true, true, false, true, true, true, false, false, false, false, false] rfl rfl (any_of HT_.out (by kernel_rfl)) (fun _ _ _ h => h) (Or.inl ⟨by rfl, ?_⟩) ?_ ?_
                rotate_left
                · intro w'
                  go_simp
                  with_reducible rfl
                rotate_left
                · simp only [Act.put, List.setIfInBounds_toArray, List.set_cons_zero, List.set_cons_succ, i64_w, i32_w]
                  rfl
                refine pure_ (i := 8) (N := some 23) (v := ?_) (a' := ?_) #[true, true, true, true, false, true, true, true, true, false, false, false, false] rfl rfl (any_of HT_.out (by kernel_rfl)) (fun _ _ _ h => h) (Or.inl ⟨by rfl, ?_⟩) ?_ ?_
                rotate_left
                · intro w'
                  go_simp
                  with_reducible rfl
                rotate_left
                · simp only [Act.put, List.setIfInBounds_toArray, List.set_cons_zero, List.set_cons_succ, i64_w, i32_w]
                  rfl
                refine pure_ (i := 9) (N := some 24) (v := ?_) (a' := ?_) #[true, true, true, true, false, true, true, true, true, true, false, false, false] rfl rfl (any_of HT_.out (by kernel_rfl)) (fun _ _ _ h => h) (Or.inl ⟨by rfl, ?_⟩) ?_ ?_
                rotate_left
                · intro w'
                  go_simp
                  with_reducible rfl
                rotate_left
                · simp only [Act.put, List.setIfInBounds_toArray, List.set_cons_zero, List.set_cons_succ, i64_w, i32_w]
                  rfl
                refine take_ (i := 4) (N := some 19) (v := ?_) (a' := ?_) #[true, true, true, true, true, true, true, true, true, true, false, false, false] rfl rfl (take_ofW HT_.out HW_.out (by kernel_rfl)) (fun _ _ _ h => h) (Or.inl ⟨by rfl, ?_⟩) hHeld ?_ ?_
                rotate_left
                · rintro w' ⟨s0, s1, s2, s3⟩
                  go_simp
                  with_reducible rfl
                rotate_left
                · simp only [Act.put, List.setIfInBounds_toArray, List.set_cons_zero, List.set_cons_succ, i64_w, i32_w]
                  rfl
                refine take_ (i := 10) (N := some 25) (v := ?_) (a' := ?_) #[true, true, true, true, true, true, true, true, true, true, true, false, false] rfl rfl (take_ofW HT_.out HW_.out (by kernel_rfl)) (fun _ _ _ h => h) (Or.inl ⟨by rfl, ?_⟩) hHeld ?_ ?_
                rotate_left
                · rintro w' ⟨s0, s1, s2, s3⟩
                  go_simp
                  with_reducible rfl
                rotate_left
                · simp only [Act.put, List.setIfInBounds_toArray, List.set_cons_zero, List.set_cons_succ, i64_w, i32_w]
                  rfl
                refine pure_ (i := 11) (N := some 26) (v := ?_) (a' := ?_) #[true, true, true, true, true, true, true, true, true, true, true, true, false] rfl rfl (any_of HT_.out (by kernel_rfl)) (fun _ _ _ h => h) (Or.inl ⟨by rfl, ?_⟩) ?_ ?_
                rotate_left
                · intro w'
                  go_simp
                  with_reducible rfl
                rotate_left
                · simp only [Act.put, List.setIfInBounds_toArray, List.set_cons_zero, List.set_cons_succ, i64_w, i32_w]
                  rfl
                refine pure_ (i := 12) (N := some 27) (v := ?_) (a' := ?_) #[true, true, true, true, true, true, true, true, true, true, true, true, true] rfl rfl (any_of HT_.out (by kernel_rfl)) (fun _ _ _ h => h) (Or.inl ⟨by rfl, ?_⟩) ?_ ?_
                rotate_left
                · intro w'
                  go_simp
                  with_reducible rfl
                rotate_left
                · simp only [Act.put, List.setIfInBounds_toArray, List.set_cons_zero, List.set_cons_succ, i64_w, i32_w]
                  rfl
                refine done_ (done_of HT_.out (by kernel_rfl)) ?_
                try go_wp2
                go_meet
                case rel => exact ⟨_, (decide (((rd_T32 l0 x9_1).f0) ≤ ((rd_T32 x3_1 (ji10)).f1))), (by first | rfl | (simp; done) | (simp only [← hji10] <;> (first | rfl | simp)) | (simp [*]; done)), H', ⟨by have := HK1.out; first | omega | exact Nat.le_refl _⟩, ⟨by (with_reducible repeat (first | apply Kd.R_alloc | apply Kd.R_drewN | apply Kd.R_drew)); exact HO_3.out⟩, ⟨by (with_reducible repeat (first | refine blk_drewN ?_ _ | refine blk_drew ?_ | refine blk_alloc ?_ _)); exact BK103.out⟩, ⟨by repeat (first | (with_reducible first | exact HB.out | apply below_alloc | apply pw_below_drewN | apply below_drew1 | refine below_set ?_ GE103.out) | exact HB.out)⟩⟩
              · rw [if_neg c12] at H
                exact absurd H (by simp)
            · rw [if_neg c11] at H
              exact absurd H (by simp)
          · rw [if_neg c9] at H
            have c9b0 : decide (0 < (x3_1.length : Int)) = false := decide_eq_false c9
            have c9b1 : decide (0 < x3_1.length) = false := decide_eq_false (by omega)
            clear c9
            (first | rw [c9b0] | (simp only [i64_w, i32_w]; rw [c9b0]) | skip)
            have H' := Aside0.mk H
            clear H
            try go_wp2
            have n0_ : Aside0 (Kd.R k32 32 ((w6.setCell ⟨gb103, 0, none⟩ (.int .i64 ((rd_T32 l0 x9_1).f0))).setCell ⟨gb103, 1, none⟩ (.int .i64 ((rd_T32 l0 x9_1).f1))) w.heap.size (fun k_ => k_ ≠ gb103) (.slice Ao8 x3_1.length co8) x3_1) := ⟨by (with_reducible repeat (first | apply Kd.R_alloc | apply Kd.R_drewN | apply Kd.R_drew)); exact Kd.R_mono (Kd.R_far (p := ⟨gb103, 1, none⟩) (Kd.R_far (p := ⟨gb103, 0, none⟩) (Kd.R_mono HO_3.out (fun k_ hk => (⟨hk, hk.2⟩ : _ ∧ k_ ≠ gb103))) (fun _ hk => hk.2) (.int .i64 ((rd_T32 l0 x9_1).f0))) (fun _ hk => hk.2) (.int .i64 ((rd_T32 l0 x9_1).f1))) (fun _ hk => hk.1.2)⟩
            have n1_ : Aside0 (((w6.setCell ⟨gb103, 0, none⟩ (.int .i64 ((rd_T32 l0 x9_1).f0))).setCell ⟨gb103, 1, none⟩ (.int .i64 ((rd_T32 l0 x9_1).f1))).heap[gb103]? = some (.cells #[.int .i64 ((rd_T32 l0 x9_1).f0), .int .i64 ((rd_T32 l0 x9_1).f1)] 32 (0, 0))) := ⟨by (with_reducible repeat (first | refine blk_drewN ?_ _ | refine blk_drew ?_ | refine blk_alloc ?_ _)); refine blk_put (cs := #[.int .i64 ((rd_T32 l0 x9_1).f0), .int .i64 0]) ?_ 1 _ rfl; (with_reducible repeat (first | refine blk_drewN ?_ _ | refine blk_drew ?_ | refine blk_alloc ?_ _)); refine blk_put (cs := #[.int .i64 0, .int .i64 0]) ?_ 0 _ rfl; (with_reducible repeat (first | refine blk_drewN ?_ _ | refine blk_drew ?_ | refine blk_alloc ?_ _)); exact BK103.out⟩
            have n2_ : Aside0 (Below w.heap.size w ((w6.setCell ⟨gb103, 0, none⟩ (.int .i64 ((rd_T32 l0 x9_1).f0))).setCell ⟨gb103, 1, none⟩ (.int .i64 ((rd_T32 l0 x9_1).f1)))) := ⟨by repeat (first | (with_reducible first | exact HB.out | apply below_alloc | apply pw_below_drewN | apply below_drew1 | refine below_set ?_ GE103.out) | exact HB.out)⟩
            (try clear HO_3)
            (try clear BK103)
            (try clear HB)
            generalize ((w6.setCell ⟨gb103, 0, none⟩ (.int .i64 ((rd_T32 l0 x9_1).f0))).setCell ⟨gb103, 1, none⟩ (.int .i64 ((rd_T32 l0 x9_1).f1))) = w15 at n0_ n1_ n2_ ⊢
            have HO_3 := n0_
            have BK103 := n1_
            have HB := n2_
            clear n0_ n1_ n2_
            have n0_ := Aside0.mk (Kd.R_drew HO_3.out)
            have n1_ := Aside0.mk (blk_drew BK103.out)
            have n2_ := Aside0.mk (below_drew1 HB.out)
            clear HO_3
            clear BK103
            clear HB
            have HO_3 := n0_
            have BK103 := n1_
            have HB := n2_
            clear n0_ n1_ n2_
            refine start_ (n := 13) (S := fun w' => True) (ds := []) #[false, false, false, false, false, false, false, false, false, false, false, false, false] (by kernel_rfl) rfl rfl trivial (fun hHeld => ?_); refine with_tabW span_joined.tab6 span_joined.bits6 (fun HT_ HW_ => ?_)
            generalize w15.drew = w16 at HO_3 BK103 HB hHeld ⊢
            refine pure_ (i := 0) (N := some 15) (v := ?_) (a' := ?_) #[true, false, false, false, false, false, false, false, false, false, false, false, false] rfl rfl (any_of HT_.out (by kernel_rfl)) (fun _ _ _ h => h) (Or.inl ⟨by rfl, ?_⟩) ?_ ?_
            rotate_left
            · intro w'
              go_simp
              with_reducible rfl
            rotate_left
            · simp only [Act.put, List.setIfInBounds_toArray, List.set_cons_zero, List.set_cons_succ, i64_w, i32_w]
              rfl
            refine pure_ (i := 1) (N := some 16) (v := ?_) (a' := ?_) #[true, true, false, false, false, false, false, false, false, false, false, false, false] rfl rfl (any_of HT_.out (by kernel_rfl)) (fun _ _ _ h => h) (Or.inl ⟨by rfl, ?_⟩) ?_ ?_
            rotate_left
            · intro w'
              go_simp
              with_reducible rfl
            rotate_left
            · simp only [Act.put, List.setIfInBounds_toArray, List.set_cons_zero, List.set_cons_succ, i64_w, i32_w]
              rfl
            refine pure_ (i := 2) (N := some 17) (v := ?_) (a' := ?_) #[true, true, true, false, false, false, false, false, false, false, false, false, false] rfl rfl (any_of HT_.out (by kernel_rfl)) (fun _ _ _ h => h) (Or.inl ⟨by rfl, ?_⟩) ?_ ?_
            rotate_left
            · intro w'
              go_simp
              with_reducible rfl
            rotate_left
            · simp only [Act.put, List.setIfInBounds_toArray, List.set_cons_zero, List.set_cons_succ, i64_w, i32_w]
              rfl
            refine pure_ (i := 3) (N := some 18) (v := undef) (a' := ?_) #[true, true, true, true, false, false, false, false, false, false, false, false, false] rfl rfl (any_of HT_.out (by kernel_rfl)) (fun _ _ _ h => h) (Or.inr ⟨by rfl, rfl⟩) ?_ ?_
            rotate_left
            · simp only [Act.put, List.setIfInBounds_toArray, List.set_cons_zero, List.set_cons_succ, i64_w, i32_w]
              rfl
            refine pure_ (i := 4) (N := some 19) (v := undef) (a' := ?_) #[true, true, true, true, true, false, false, false, false, false, false, false, false] rfl rfl (any_of HT_.out (by kernel_rfl)) (fun _ _ _ h => h) (Or.inr ⟨by rfl, rfl⟩) ?_ ?_
            rotate_left
            · simp only [Act.put, List.setIfInBounds_toArray, List.set_cons_zero, List.set_cons_succ, i64_w, i32_w]
              rfl
            refine pure_ (i := 5) (N := some 20) (v := undef) (a' := ?_) #[true, true, true, true, true, true, false, false, false, false, false, false, false] rfl rfl (any_of HT_.out (by kernel_rfl)) (fun _ _ _ h => h) (Or.inr ⟨by rfl, rfl⟩) ?_ ?_
            rotate_left
            · simp only [Act.put, List.setIfInBounds_toArray, List.set_cons_zero, List.set_cons_succ, i64_w, i32_w]
              rfl
            refine pure_ (i := 6) (N := some 21) (v := undef) (a' := ?_) #[true, true, true, true, true, true, true, false, false, false, false, false, false] rfl rfl (any_of HT_.out (by kernel_rfl)) (fun _ _ _ h => h) (Or.inr ⟨by rfl, rfl⟩) ?_ ?_
            rotate_left
            · simp only [Act.put, List.setIfInBounds_toArray, List.set_cons_zero, List.set_cons_succ, i64_w, i32_w]
              rfl
            refine pure_ (i := 7) (N := some 22) (v := undef) (a' := ?_) #[true, true, true, true, true, true, true, true, false, false, false, false, false] rfl rfl (any_of HT_.out (by kernel_rfl)) (fun _ _ _ h => h) (Or.inr ⟨by rfl, rfl⟩) ?_ ?_
            rotate_left
            · simp only [Act.put, List.setIfInBounds_toArray, List.set_cons_zero, List.set_cons_succ, i64_w, i32_w]
              rfl
            refine pure_ (i := 8) (N := some 23) (v := undef) (a' := ?_) #[true, true, true, true, true, true, true, true, true, false, false, false, false] rfl rfl (any_of HT_.out (by kernel_rfl)) (fun _ _ _ h => h) (Or.inr ⟨by rfl, rfl⟩) ?_ ?_
            rotate_left
            · simp only [Act.put, List.setIfInBounds_toArray, List.set_cons_zero, List.set_cons_succ, i64_w, i32_w]
              rfl
            refine pure_ (i := 9) (N := some 24) (v := undef) (a' := ?_) #[true, true, true, true, true, true, true, true, true, true, false, false, false] rfl rfl (any_of HT_.out (by kernel_rfl)) (fun _ _ _ h => h) (Or.inr ⟨by rfl, rfl⟩) ?_ ?_
            rotate_left
            · simp only [Act.put, List.setIfInBounds_toArray, List.set_cons_zero, List.set_cons_succ, i64_w, i32_w]
              rfl
            refine pure_ (i := 10) (N := some 25) (v := undef) (a' := ?_) #[true, true, true, true, true, true, true, true, true, true, true, false, false] rfl rfl (any_of HT_.out (by kernel_rfl)) (fun _ _ _ h => h) (Or.inr ⟨by rfl, rfl⟩) ?_ ?_
            rotate_left
            · simp only [Act.put, List.setIfInBounds_toArray, List.set_cons_zero, List.set_cons_succ, i64_w, i32_w]
              rfl
            refine pure_ (i := 11) (N := some 26) (v := undef) (a' := ?_) #[true, true, true, true, true, true, true, true, true, true, true, true, false] rfl rfl (any_of HT_.out (by kernel_rfl)) (fun _ _ _ h => h) (Or.inr ⟨by rfl, rfl⟩) ?_ ?_
            rotate_left
            · simp only [Act.put, List.setIfInBounds_toArray, List.set_cons_zero, List.set_cons_succ, i64_w, i32_w]
              rfl
            refine pure_ (i := 12) (N := some 27) (v := ?_) (a' := ?_) #[true, true, true, true, true, true, true, true, true, true, true, true, true] rfl rfl (any_of HT_.out (by kernel_rfl)) (fun _ _ _ h => h) (Or.inl ⟨by rfl, ?_⟩) ?_ ?_
            rotate_left
            · intro w'
              go_simp
              with_reducible rfl
            rotate_left
            · simp only [Act.put, List.setIfInBounds_toArray, List.set_cons_zero, List.set_cons_succ, i64_w, i32_w]
              rfl
            refine done_ (done_of HT_.out (by kernel_rfl)) ?_
            try go_wp2
            go_meet
            case rel => exact ⟨_, (false), (by first | rfl | (simp; done) | (simp [*]; done)), H', ⟨by have := HK1.out; first | omega | exact Nat.le_refl _⟩, ⟨by (with_reducible repeat (first | apply Kd.R_alloc | apply Kd.R_drewN | apply Kd.R_drew)); exact HO_3.out⟩, ⟨by (with_reducible repeat (first | refine blk_drewN ?_ _ | refine blk_drew ?_ | refine blk_alloc ?_ _)); exact BK103.out⟩, ⟨by repeat (first | (with_reducible first | exact HB.out | apply below_alloc | apply pw_below_drewN | apply below_drew1 | refine below_set ?_ GE103.out) | exact HB.out)⟩⟩
         case rest =>
          clear HC5
          try clear c1
          try clear p1
          try clear q1
          try clear hx1
          try clear c2
          try clear c2b0
          try clear p2
          try clear c3
          try clear c3b0
          try clear c4
          try clear c4b0
          try clear c6
          try clear p6
          try clear c9
          try clear c9b0
          try clear c9b1
          try clear p10
          try clear q10
          try clear hx10
          try clear c11
          try clear c11b0
          try clear c12
          try clear c12b0
          try clear hcz7_0
          try clear hcz7_1
          try clear hfz7_0
          try clear hfz7_1
          try clear hx102_0
          try clear hx102_1
          try clear hx104_0
          try clear hx104_1
          try clear p102
          try clear p104
          try clear q102
          try clear q104
          obtain ⟨kq, x27_4, rfl, HA, HJ4, HO_3, BK103, HB⟩ := hcut
          cases kq with
          | zero => exact absurd HA.out (by simp [span_joined.j1])
          | succ kj4 =>
           have H := HA.out
           clear HA
           simp only [span_joined.j1] at H
           by_cases c17 : x27_4 = true
           · subst c17
             have H1 : (if 0 ≤ (wrap64 ((x3_1.length : Int) - 1)) then (if (wrap64 ((x3_1.length : Int) - 1)) < (x3_1.length : Int) then (span_joined.l0 kj4 (x3_1.set ((wrap64 ((x3_1.length : Int) - 1)) : Int).toNat (⟨(rd_T32 x3_1 (wrap64 ((x3_1.length : Int) - 1))).f0, mx ((rd_T32 x3_1 (wrap64 ((x3_1.length : Int) - 1))).f1) ((rd_T32 l0 x9_1).f1)⟩ : S32)) l0 (l0.length : Int) (wrap64 (x9_1 + 1))) else (none)) else (none)) = some r := by rw [if_pos rfl] at H; exact H
             clear H
             have H := H1
             clear H1
             obtain ⟨ji18, hji18⟩ : ∃ j_ : Int, (wrap64 ((x3_1.length : Int) - 1)) = j_ := ⟨_, rfl⟩
             replace H : (if 0 ≤ (ji18) then (if (ji18) < (x3_1.length : Int) then (span_joined.l0 kj4 (x3_1.set ((ji18) : Int).toNat (⟨(rd_T32 x3_1 (ji18)).f0, mx ((rd_T32 x3_1 (ji18)).f1) ((rd_T32 l0 x9_1).f1)⟩ : S32)) l0 (l0.length : Int) (wrap64 (x9_1 + 1))) else (none)) else (none)) = some r := by first | (rw [hji18] at H; exact H) | (simp only [hji18] at H ⊢; exact H)
             have hji18w : (IntKind.i64.wrap ((x3_1.length : Int) - 1)) = ji18 := (i64_w _).trans hji18
             by_cases c19 : 0 ≤ (ji18)
             · rw [if_pos c19] at H
               have c19b0 : decide (0 ≤ (ji18)) = true := decide_eq_true c19
               clear c19
               by_cases c20 : (ji18) < (x3_1.length : Int)
               · rw [if_pos c20] at H
                 have c20b0 : decide ((ji18) < (x3_1.length : Int)) = true := decide_eq_true c20
                 clear c20
                 obtain ⟨ji21, hji21⟩ : ∃ j_ : Int, (mx ((rd_T32 x3_1 (ji18)).f1) ((rd_T32 l0 x9_1).f1)) = j_ := ⟨_, rfl⟩
                 replace H : (span_joined.l0 kj4 (x3_1.set ((ji18) : Int).toNat (⟨(rd_T32 x3_1 (ji18)).f0, ji21⟩ : S32)) l0 (l0.length : Int) (wrap64 (x9_1 + 1))) = some r := by first | (rw [hji21] at H; exact H) | (simp only [hji21] at H ⊢; exact H)
                 have hji21_ : (if ((rd_T32 x3_1 (ji18)).f1) < ((rd_T32 l0 x9_1).f1) then ((rd_T32 l0 x9_1).f1) else ((rd_T32 x3_1 (ji18)).f1)) = ji21 := hji21
                 obtain ⟨y106, hy106⟩ : ∃ y_ : List (S32), y_ = (x3_1.set ((ji18) : Int).toNat (⟨(rd_T32 x3_1 (ji18)).f0, ji21⟩ : S32)) := ⟨_, rfl⟩
                 replace H : (span_joined.l0 kj4 y106 l0 (l0.length : Int) (wrap64 (x9_1 + 1))) = some r := by first | (rw [hy106]; with_reducible exact H) | (have H2_ := (Option.bind_some _ _).symm.trans H; rw [hy106]; with_reducible exact H2_) | (have H2_ := (Option.bind_some _ _).symm.trans H; with_reducible exact H2_) | with_reducible exact H | (rw [hy106]; exact H) | exact H
                 have Ny106 := Aside0.mk hy106
                 clear hy106
                 have H' := Aside0.mk H
                 clear H
                 try go_wp2
                 have n0_ := Aside0.mk (Kd.R_drew HO_3.out)
                 have n1_ := Aside0.mk (blk_drew BK103.out)
                 have n2_ := Aside0.mk (below_drew1 HB.out)
                 clear HO_3
                 clear BK103
                 clear HB
                 have HO_3 := n0_
                 have BK103 := n1_
                 have HB := n2_
                 clear n0_ n1_ n2_
                 have p105 : 0 ≤ ((ji18) : Int) := of_decide_eq_true (by first | (with_reducible assumption) | assumption)
                 have q105 : (ji18) < (x3_1.length : Int) := of_decide_eq_true (by first | (with_reducible assumption) | assumption)
                 obtain ⟨ad105, e105, hx105_0, hx105_1⟩ := at_T32 (Kd.R_reads' HO_3.out).2.2 (ji18) p105 q105
                 cases e105
                 replace p105 := eq_true p105
                 replace q105 := eq_true q105
                 have p22 : 0 ≤ ((ji18) : Int) := of_decide_eq_true (by first | (with_reducible assumption) | assumption)
                 have q22 : ((ji18) : Int) < ((x3_1.length : Int) : Int) := of_decide_eq_true (by first | (with_reducible assumption) | assumption)
                 obtain ⟨go22, co22, eo22, gb22, gl22, cl22, HG22⟩ := Kd.R_form HO_3.out (by omega)
                 (first | cases eo22 | (injection eo22 with ea_ en_ ec_; (first | subst ea_ | (injection ea_ with ea_; subst ea_)); subst ec_; clear en_))
                 have GB22 := Aside0.mk gb22
                 have GG22 := Aside0.mk HG22
                 clear gb22 gl22 HG22
                 (first | simp only [add_plain] at hx105_0 | skip)
                 (first | simp only [add_plain] at hx105_1 | skip)
                 obtain ⟨ce22, hcl22, hM22, hcc22, hfr22⟩ := Kd.R_elem HO_3.out z32 ((ji18) : Int) p22 q22
                 obtain rfl := k32_openM hM22
                 have hx22_0 : World.cell? _ ⟨go22, ((ji18) : Int).toNat * 2, none⟩ = some (.int .i64 ((rd_T32 x3_1 (ji18)).f0)) := hcc22 0 _ rfl
                 have hx22_1 : World.cell? _ ⟨go22, ((ji18) : Int).toNat * 2 + 1, none⟩ = some (.int .i64 ((rd_T32 x3_1 (ji18)).f1)) := hcc22 1 _ rfl
                 have hf22_0 : World.frozen? _ ⟨go22, ((ji18) : Int).toNat * 2, none⟩ = false := hfr22 0
                 have hf22_1 : World.frozen? _ ⟨go22, ((ji18) : Int).toNat * 2 + 1, none⟩ = false := hfr22 1
                 clear hcl22 hcc22 hfr22 hM22
                 replace p22 := eq_true p22
                 replace q22 := eq_true q22
                 obtain ⟨ce24, hcl24, hM24, hcc24, hfr24⟩ := Kd.R_elem HO_3.out z32 ((ji18) : Int) (of_decide_eq_true (by first | (with_reducible assumption) | assumption)) (by have h_ : ((ji18) : Int) < ((x3_1.length : Int) : Int) := of_decide_eq_true (by first | (with_reducible assumption) | assumption); first | exact h_ | (have e_ := (Kd.R_reads' HO_3.out).1; omega) | simpa using h_)
                 obtain rfl := k32_openM hM24
                 have HP24 := (Kd.R_seg HO_3.out ((ji18) : Int) (of_decide_eq_true (by first | (with_reducible assumption) | assumption)) (by have h_ : ((ji18) : Int) < ((x3_1.length : Int) : Int) := of_decide_eq_true (by first | (with_reducible assumption) | assumption); first | exact h_ | (have e_ := (Kd.R_reads' HO_3.out).1; omega) | simpa using h_) (seg := [.int .i64 ji21]) (j := 1) hcl24 hcc24 (show 2 ≤ 2 from by decide) (x' := (⟨(rd_T32 x3_1 (ji18)).f0, ji21⟩ : S32)) (k32_mkM _ _ _ (⟨(rd_T32 x3_1 (ji18)).f0, ji21⟩ : S32) ) (fun _ hk => hk)).1
                 rw [← Ny106.out] at HP24
                 have HQ24 := Aside0.mk HP24
                 clear hcl24 hcc24 hfr24 hM24 HP24
                 refine start_ (n := 15) (S := fun w' => w'.cell? ⟨gb103, 0, none⟩ = some (.int .i64 ((rd_T32 l0 x9_1).f0)) ∧ w'.cell? ⟨gb103, 1, none⟩ = some (.int .i64 ((rd_T32 l0 x9_1).f1)) ∧ w'.cell? ⟨go22, ((ji18)).toNat * 2, none⟩ = some (.int .i64 ((rd_T32 x3_1 (ji18)).f0)) ∧ w'.cell? ⟨go22, ((ji18)).toNat * 2 + 1, none⟩ = some (.int .i64 ((rd_T32 x3_1 (ji18)).f1))) (ds := [14]) #[false, false, false, false, false, false, false, false, false, false, false, false, false, false, false] (by kernel_rfl) rfl rfl ⟨(blk_cell BK103.out 0).trans rfl, (blk_cell BK103.out 1).trans rfl, hx105_0, hx105_1⟩ (fun hHeld => ?_); refine with_tabW span_joined.tab7 span_joined.bits7 (fun HT_ HW_ => ?_)
                 generalize wc.drew = w23 at HO_3 BK103 HB GG22 HQ24 hf22_0 hf22_1 hx105_0 hx105_1 hx22_0 hx22_1 hHeld ⊢
                 refine pure_ (i := 0) (N := some 28) (v := ?_) (a' := ?_) #[true, false, false, false, false, false, false, false, false, false, false, false, false, false, false] rfl rfl (any_of HT_.out (by kernel_rfl)) (fun _ _ _ h => h) (Or.inl ⟨by rfl, ?_⟩) ?_ ?_
                 rotate_left
                 · intro w'
                   go_simp
                   with_reducible rfl
                 rotate_left
                 · simp only [Act.put, List.setIfInBounds_toArray, List.set_cons_zero, List.set_cons_succ, i64_w, i32_w]
                   rfl
                 refine pure_ (i := 1) (N := some 29) (v := ?_) (a' := ?_) #[true, true, false, false, false, false, false, false, false, false, false, false, false, false, false] rfl rfl (any_of HT_.out (by kernel_rfl)) (fun _ _ _ h => h) (Or.inl ⟨by rfl, ?_⟩) ?_ ?_
                 rotate_left
                 · intro w'
                   go_simp
                   with_reducible rfl
                 rotate_left
                 · simp only [Act.put, List.setIfInBounds_toArray, List.set_cons_zero, List.set_cons_succ, i64_w, i32_w]
                   rfl
                 refine pure_ (i := 2) (N := some 30) (v := ?_) (a' := ?_) #[true, true, true, false, false, false, false, false, false, false, false, false, false, false, false] rfl rfl (any_of HT_.out (by kernel_rfl)) (fun _ _ _ h => h) (Or.inl ⟨by rfl, ?_⟩) ?_ ?_
                 rotate_left
                 · intro w'
                   go_simp
                   with_reducible rfl
                 rotate_left
                 · simp only [Act.put, List.setIfInBounds_toArray, List.set_cons_zero, List.set_cons_succ, i64_w, i32_w]
                   rfl
                 refine pure_ (i := 3) (N := some 31) (v := ?_) (a' := ?_) #[true, true, true, true, false, false, false, false, false, false, false, false, false, false, false] rfl rfl (any_of HT_.out (by kernel_rfl)) (fun _ _ _ h => h) (Or.inl ⟨by rfl, ?_⟩) ?_ ?_
                 rotate_left
                 · intro w'
                   go_simp
                   with_reducible rfl
                 rotate_left
                 · simp only [Act.put, List.setIfInBounds_toArray, List.set_cons_zero, List.set_cons_succ, i64_w, i32_w]
                   rfl
                 refine pure_ (i := 4) (N := some 32) (v := ?_) (a' := ?_) #[true, true, true, true, true, false, false, false, false, false, false, false, false, false, false] rfl rfl (any_of HT_.out (by kernel_rfl)) (fun _ _ _ h => h) (Or.inl ⟨by rfl, ?_⟩) ?_ ?_
                 rotate_left
                 · intro w'
                   go_simp
                   with_reducible rfl
                 rotate_left
                 · simp only [Act.put, List.setIfInBounds_toArray, List.set_cons_zero, List.set_cons_succ, i64_w, i32_w]
                   rfl
                 refine pure_ (i := 5) (N := some 33) (v := ?_) (a' := ?_) #[true, true, true, true, true, true, false, false, false, false, false, false, false, false, false] rfl rfl (any_of HT_.out (by kernel_rfl)) (fun _ _ _ h => h) (Or.inl ⟨by rfl, ?_⟩) ?_ ?_
                 rotate_left
                 · intro w'
                   go_simp
                   with_reducible rfl
                 rotate_left
                 · simp only [Act.put, List.setIfInBounds_toArray, List.set_cons_zero, List.set_cons_succ, i64_w, i32_w]
                   rfl
                 refine pure_ (i := 6) (N := some 34) (v := ?_) (a' := ?_) #[true, true, true, true, true, true, true, false, false, false, false, false, false, false, false] rfl rfl (any_of HT_.out (by kernel_rfl)) (fun _ _ _ h => h) (Or.inl ⟨by rfl, ?_⟩) ?_ ?_
                 rotate_left
                 · intro w'
                   go_simp
                   with_reducible rfl
                 rotate_left
                 · simp only [Act.put, List.setIfInBounds_toArray, List.set_cons_zero, List.set_cons_succ, i64_w, i32_w]
                   rfl
                 refine pure_ (i := 7) (N := some 35) (v := ?_) (a' := ?_) #[true, true, true, true, true, true, true, true, false, false, false, false, false, false, false] rfl rfl (any_of HT_.out (by kernel_rfl)) (fun _ _ _ h => h) (Or.inl ⟨by rfl, ?_⟩) ?_ ?_
                 rotate_left
                 · intro w'
                   go_simp
                   with_reducible rfl
                 rotate_left
                 · simp only [Act.put, List.setIfInBounds_toArray, List.set_cons_zero, List.set_cons_succ, i64_w, i32_w]
                   rfl
                 refine pure_ (i := 9) (N := some 37) (v := ?_) (a' := ?_) #[true, true, true, true, true, true, true, true, false, true, false, false, false, false, false] rfl rfl (any_of HT_.out (by kernel_rfl)) (fun _ _ _ h => h) (Or.inl ⟨by rfl, ?_⟩) ?_ ?_
                 rotate_left
                 · intro w'
                   go_simp
                   with_reducible rfl
                 rotate_left
                 · simp only [Act.put, List.setIfInBounds_toArray, List.set_cons_zero, List.set_cons_succ, i64_w, i32_w]
                   rfl
                 refine take_ (i := 8) (N := some 36) (v := ?_) (a' := ?_) #[true, true, true, true, true, true, true, true, true, true, false, false, false, false, false] rfl rfl (take_ofW HT_.out HW_.out (by kernel_rfl)) (fun _ _ _ h => h) (Or.inl ⟨by rfl, ?_⟩) hHeld ?_ ?_
                 rotate_left
                 · rintro w' ⟨s0, s1, s2, s3⟩
                   go_simp
                   with_reducible rfl
                 rotate_left
                 · simp only [Act.put, List.setIfInBounds_toArray, List.set_cons_zero, List.set_cons_succ, i64_w, i32_w]
                   rfl
                 refine take_ (i := 10) (N := some 38) (v := ?_) (a' := ?_) #[true, true, true, true, true, true, true, true, true, true, true, false, false, false, false] rfl rfl (take_ofW HT_.out HW_.out (by kernel_rfl)) (fun _ _ _ h => h) (Or.inl ⟨by rfl, ?_⟩) hHeld ?_ ?_
                 rotate_left
                 · rintro w' ⟨s0, s1, s2, s3⟩
                   go_simp
                   with_reducible rfl
                 rotate_left
                 · simp only [Act.put, List.setIfInBounds_toArray, List.set_cons_zero, List.set_cons_succ, i64_w, i32_w]
                   rfl
                 refine pure_ (i := 11) (N := some 39) (v := ?_) (a' := ?_) #[true, true, true, true, true, true, true, true, true, true, true, true, false, false, false] rfl rfl (any_of HT_.out (by kernel_rfl)) (fun _ _ _ h => h) (Or.inl ⟨by rfl, ?_⟩) ?_ ?_
                 rotate_left
                 · intro w'
                   go_simp
                   with_reducible rfl
                 rotate_left
                 · simp only [Act.put, List.setIfInBounds_toArray, List.set_cons_zero, List.set_cons_succ, i64_w, i32_w]
                   rfl
                 refine pure_ (i := 12) (N := some 40) (v := ?_) (a' := ?_) #[true, true, true, true, true, true, true, true, true, true, true, true, true, false, false] rfl rfl (any_of HT_.out (by kernel_rfl)) (fun _ _ _ h => h) (Or.inl ⟨by rfl, ?_⟩) ?_ ?_
                 rotate_left
                 · intro w'
                   go_simp
                   with_reducible rfl
                 rotate_left
                 · simp only [Act.put, List.setIfInBounds_toArray, List.set_cons_zero, List.set_cons_succ, i64_w, i32_w]
                   rfl
                 refine pure_ (i := 13) (N := some 41) (v := ?_) (a' := ?_) #[true, true, true, true, true, true, true, true, true, true, true, true, true, true, false] rfl rfl (any_of HT_.out (by kernel_rfl)) (fun _ _ _ h => h) (Or.inl ⟨by rfl, ?_⟩) ?_ ?_
                 rotate_left
                 · intro w'
                   go_simp
                   with_reducible rfl
                 rotate_left
                 · simp only [Act.put, List.setIfInBounds_toArray, List.set_cons_zero, List.set_cons_succ, i64_w, i32_w]
                   rfl
                 refine last_ (i := 14) (N := none) #[true, true, true, true, true, true, true, true, true, true, true, true, true, true, true] rfl rfl (one_of HT_.out (by kernel_rfl)) (by decide) (fun K hK => ?_)
                 refine skip_ (w1 := ?_) (by rfl) rfl ?_ ?_
                 rotate_left
                 · go_simp
                   rfl
                 refine hK.out _ _ ?_
                 clear hK K
                 refine done_ (done_of HT_.out (by kernel_rfl)) ?_
                 try go_wp2
                 go_roundg kj4
                 case measure => have := HK1.out; have := HJ4.out; omega
                 case rel => exact ⟨(y106), (wrap64 (x9_1 + 1)), (by first | rfl | (simp; done) | (simp [*]; done)), H', ⟨by have := HK1.out; have := HJ4.out; omega⟩, ⟨by (with_reducible repeat (first | apply Kd.R_alloc | apply Kd.R_drewN | apply Kd.R_drew)); exact Kd.R_mono HQ24.out (fun _ hk => trivial)⟩, ⟨by repeat (first | (with_reducible first | exact HB.out | apply below_alloc | apply pw_below_drewN | apply below_drew1 | refine below_set ?_ GB22.out | refine below_set ?_ GE103.out) | exact HB.out)⟩⟩
               · rw [if_neg c20] at H
                 exact absurd H (by simp)
             · rw [if_neg c19] at H
               exact absurd H (by simp)
           · replace c17 := Bool.eq_false_iff.mpr c17
             subst c17
             have H1 : (if x3_1.length < 8796093022208 then (span_joined.l0 kj4 (x3_1 ++ [(⟨((rd_T32 l0 x9_1).f0), ((rd_T32 l0 x9_1).f1)⟩ : S32)]) l0 (l0.length : Int) (wrap64 (x9_1 + 1))) else (none)) = some r := by rw [if_neg (show ¬ (false = true) by decide)] at H; exact H
             clear H
             have H := H1
             clear H1
             by_cases c25 : x3_1.length < 8796093022208
             · rw [if_pos c25] at H
               have LMc25 := Aside0.mk c25
               clear c25
               obtain ⟨y107, hy107⟩ : ∃ y_ : List (S32), y_ = (x3_1 ++ [(⟨((rd_T32 l0 x9_1).f0), ((rd_T32 l0 x9_1).f1)⟩ : S32)]) := ⟨_, rfl⟩
               replace H : (span_joined.l0 kj4 y107 l0 (l0.length : Int) (wrap64 (x9_1 + 1))) = some r := by first | (rw [hy107]; with_reducible exact H) | (have H2_ := (Option.bind_some _ _).symm.trans H; rw [hy107]; with_reducible exact H2_) | (have H2_ := (Option.bind_some _ _).symm.trans H; with_reducible exact H2_) | with_reducible exact H | (rw [hy107]; exact H) | exact H
               have Ny107 := Aside0.mk hy107
               clear hy107
               have H' := Aside0.mk H
               clear H
               have hcz26_0 : wc.cell? ⟨gb103, 0, none⟩ = some (.int .i64 ((rd_T32 l0 x9_1).f0)) := (blk_cell BK103.out 0).trans rfl
               have hcz26_1 : wc.cell? ⟨gb103, 1, none⟩ = some (.int .i64 ((rd_T32 l0 x9_1).f1)) := (blk_cell BK103.out 1).trans rfl
               have hfz26_0 := blk_frozen BK103.out 0
               have hfz26_1 := blk_frozen BK103.out 1
               go_wp2_with (first | ((with_reducible refine gate_builtin (b := .append) (xs := #[.tmp 42, .tmp 44]) rfl ?_); at_builtin; refine Kd.R_append k32 (w0 := w) w.heap.size rfl (.tmp 42) (.tmp 44) 22 32 (.agg #[(.int .i64 0), (.int .i64 0)]) 16 rfl Try.underlying22 info32 rfl (by decide) (by omega) (.slice Ao8 x3_1.length co8) x3_1 (⟨((rd_T32 l0 x9_1).f0), ((rd_T32 l0 x9_1).f1)⟩ : S32) [.int .i64 ((rd_T32 l0 x9_1).f0), .int .i64 ((rd_T32 l0 x9_1).f1)] (fun k_ => k_ ≠ gb103) (fun _ => False) rfl rfl ?aP (fun _ hk => hk.elim) ?aF ?aO ?aB ?aS ?aL ?_; (case aP => exact k32_mkM _ _ _ (⟨((rd_T32 l0 x9_1).f0), ((rd_T32 l0 x9_1).f1)⟩ : S32)); (case aB => exact (by repeat (first | (with_reducible first | exact HB.out | apply below_alloc | apply pw_below_drewN | apply below_drew1 | refine below_set ?_ GE103.out) | exact HB.out))); (case aF => exact (fun k_ hk => Kd.freshB (g := gb103) (o := .cells #[.int .i64 ((rd_T32 l0 x9_1).f0), .int .i64 ((rd_T32 l0 x9_1).f1)] 32 (0, 0)) (by (with_reducible repeat (first | refine blk_drewN ?_ _ | refine blk_drew ?_ | refine blk_alloc ?_ _)); exact BK103.out) k_ hk)); (case aO => exact (by (with_reducible repeat (first | apply Kd.R_alloc | apply Kd.R_drewN | apply Kd.R_drew)); exact HO_3.out)); (case aS => exact (below_size (by repeat (first | (with_reducible first | exact HB.out | apply below_alloc | apply pw_below_drewN | apply below_drew1 | refine below_set ?_ GE103.out) | exact HB.out)))); (case aL => have := LMc25.out; omega); intro v108 w27 ho hb hg hat; rw [← Ny107.out] at ho; have n0_ := Aside0.mk (blk_grown (g := gb103) (o := .cells #[.int .i64 ((rd_T32 l0 x9_1).f0), .int .i64 ((rd_T32 l0 x9_1).f1)] 32 (0, 0)) (by (with_reducible repeat (first | refine blk_drewN ?_ _ | refine blk_drew ?_ | refine blk_alloc ?_ _)); exact BK103.out) hg (Kd.R_away HO_3.out (fun _ hk => hk))); have n1_ := Aside0.mk (hb); have n2_ := Aside0.mk (ho); clear BK103; clear HB; clear HO_3; have BK103 := n0_; have HB := n1_; have HO109 := n2_; clear n0_ n1_ n2_; clear ho hb hg hat))
               go_roundg kj4
               case measure => have := HK1.out; have := HJ4.out; omega
               case rel => exact ⟨(y107), (wrap64 (x9_1 + 1)), (by first | rfl | (simp; done) | (simp [*]; done)), H', ⟨by have := HK1.out; have := HJ4.out; omega⟩, ⟨by (with_reducible repeat (first | apply Kd.R_alloc | apply Kd.R_drewN | apply Kd.R_drew)); exact Kd.R_mono HO109.out (fun _ hk => trivial)⟩, ⟨by repeat (first | (with_reducible first | exact HB.out | apply below_alloc | apply pw_below_drewN | apply below_drew1 | refine below_set ?_ GE103.out) | exact HB.out)⟩⟩
             · rw [if_neg c25] at H
               exact absurd H (by simp)
       · rw [if_neg c4] at H
         exact absurd H (by simp)
     · rw [if_neg c3] at H
       exact absurd H (by simp)
   · rw [if_neg c2] at H
     have c2b0 : decide (x9_1 < (l0.length : Int)) = false := decide_eq_false c2
     clear c2
     obtain rfl := Option.some.inj H
     go_wp2
     go_ret
     exact ⟨_, by first | rfl | (simp [errW_none, errW_some] <;> rfl) | (simp [*, errW_none, errW_some] <;> rfl), by (with_reducible repeat (first | apply Kd.R_alloc | apply Kd.R_drewN | apply Kd.R_drew)); exact HO_3.out, by repeat (first | (with_reducible first | exact HB.out | apply below_alloc | apply pw_below_drewN | apply below_drew1) | exact HB.out)⟩
end Go.Proofs.Ytningpmoojnomaa.Pr
end
section
namespace Go.Proofs.Ytningpmoojnomaa.Pr
open Go.RowKit Go.Proofs.YtningpmoojnomaaW.PrintWords Go.Proofs.YtningpmoojnomaaW.PrintLast Go.Proofs.YtningpmoojnomaaW.PrintMore
attribute [local go_sem] max2_int min2_int max_two min_two max_three min_three max_four min_four   -- for this text's walks alone
set_option linter.unusedVariables false
set_option linter.unusedSimpArgs false
def span_Rank.l0 : Nat → Int → Int → List (S32) → Int → Int → Option (Int × Int)
 | 0, _, _, _, _, _ => none
 | k + 1, x1, x6, x12, x13, x14 => if x14 < x13 then (if 0 ≤ x14 then (if x14 < (x12.length : Int) then (if x1 > ((rd_T32 x12 x14).f0) then (span_Rank.l0 k x1 (wrap64 (x6 + (wrap64 ((mn x1 ((rd_T32 x12 x14).f1)) - ((rd_T32 x12 x14).f0))))) x12 x13 (wrap64 (x14 + 1))) else (span_Rank.l0 k x1 x6 x12 x13 (wrap64 (x14 + 1)))) else (none)) else (none)) else (some (x6, 0))
def span_Rank.f (k : Nat) (l0 : List (S32)) (a1 : Int) : Option (Int × Int) := (span_Valid.f k l0).bind fun t118 => (if t118 = true then (span_Rank.l0 k a1 0 l0 (l0.length : Int) 0) else (some (0, 2)))
theorem span_Rank.mono_l : ∀ k, (∀ y0 y1 y2 y3 y4, LeO (span_Rank.l0 k y0 y1 y2 y3 y4) (span_Rank.l0 (k + 1) y0 y1 y2 y3 y4))
 | 0 => fun _ _ _ _ _ r h => by simp [span_Rank.l0] at h
 | k + 1 => by
  have ih0 := span_Rank.mono_l k
  · intro y0 y1 y2 y3 y4
    unfold span_Rank.l0
    repeat' first
    | (with_reducible exact ih0 _ _ _ _ _)
    | (with_reducible exact span_Valid.mono _ _)
    | (with_reducible exact LeO.refl _)
    | (with_reducible exact LeO.none _)
    | (with_reducible refine LeO.ite ?_ ?_)
    | (with_reducible refine LeO.bind ?_ (fun _ => ?_))
    | exact ih0 _ _ _ _ _
    | exact span_Valid.mono _ _
    | exact LeO.none _
    | refine LeO.ite ?_ ?_
    | refine LeO.bind ?_ (fun _ => ?_)
theorem span_Rank.mono : ∀ a0 a1 k, LeO (span_Rank.f k a0 a1) (span_Rank.f (k + 1) a0 a1) := by
 intro a0 a1 k
 have ih0 := span_Rank.mono_l k
 unfold span_Rank.f
 repeat' first
  | (with_reducible exact ih0 _ _ _ _ _)
  | (with_reducible exact span_Valid.mono _ _)
  | (with_reducible exact LeO.refl _)
  | (with_reducible exact LeO.none _)
  | (with_reducible refine LeO.ite ?_ ?_)
  | (with_reducible refine LeO.bind ?_ (fun _ => ?_))
  | exact ih0 _ _ _ _ _
  | exact span_Valid.mono _ _
  | exact LeO.none _
  | refine LeO.ite ?_ ?_
  | refine LeO.bind ?_ (fun _ => ?_)
set_option maxHeartbeats 8000000 in
set_option maxRecDepth 100000 in
theorem span_Rank.calls (k : Nat) (A0 : Option Addr) (c0 : Nat) (l0 : List (S32)) (a1 : Int) (r1 : Int) (r2 : Int) (w : World) (hr0 : Kd.C k32 w A0 l0.length l0) (hc0 : l0.length ≤ c0) (h : span_Rank.f k l0 a1 = some (r1, r2)) :
 Calls Try.prog 36 #[.slice A0 l0.length c0, .int .i64 a1] w fun e w' => e = .returned (.tuple #[.int .i64 r1, .int .i64 r2]) ∧ Below w.heap.size w w' := by
 have hu32 := Try.underlying32
 have HR0 := Aside0.mk hr0
 have HC0 := Aside0.mk hc0
 clear hr0 hc0
 have HB := Aside0.mk (Below.refl w.heap.size w)
 have H : ((span_Valid.f k l0).bind fun t118 => (if t118 = true then (span_Rank.l0 k a1 0 l0 (l0.length : Int) 0) else (some (0, 2)))) = some (r1, r2) := h
 clear h
 replace H := Option.bind_eq_some_iff.mp H
 obtain ⟨t118, A30, H⟩ := H
 replace H : (if t118 = true then (span_Rank.l0 k a1 0 l0 (l0.length : Int) 0) else (some (0, 2))) = some (r1, r2) := H
 have A3 := Aside0.mk A30
 clear A30
 by_cases c4 : t118 = true
 · subst c4
   have H1 : (span_Rank.l0 k a1 0 l0 (l0.length : Int) 0) = some (r1, r2) := by rw [if_pos rfl] at H; exact H
   clear H
   have H := H1
   clear H1
   have H' := Aside0.mk H
   clear H
   go_enter Try.func36, Try.ntmps36
   go_wp2_with (first | ((with_reducible refine gate_callee (f := 23) rfl ?_); refine goesL_ (some 10) rfl rfl Try.func23 (by kernel_rfl) rfl #[.slice A0 l0.length c0] rfl (by (try simp only [List.map_toArray, List.map_cons, List.map_nil]); first | done | rfl | (simp only [List.length_drop, List.length_take]; rfl)) ?_; (with_reducible refine (span_Valid.calls k _ _ l0 true _ ?side1 ?side2 A3.out).mono ?_); (case side1 => repeat (first | exact HR0.out | (with_reducible refine Kd.C_alloc ?_ _) | (with_reducible refine Kd.C_drewN ?_ _) | (with_reducible refine Kd.C_drew ?_))); (case side2 => exact HC0.out); rintro e w5 ⟨rfl, hb⟩; refine ⟨_, rfl, ?_⟩; have n0_ := Aside0.mk (below_step (by repeat (first | (with_reducible first | exact HB.out | apply below_alloc | apply pw_below_drewN | apply below_drew1) | exact HB.out)) hb); clear HB; have HB := n0_; clear n0_; (try clear hb); (try clear hb2); (try clear hk); (try clear hi)))
   go_loopg [6, 14] k (fun kq v6 v14 w' => ∃ (x6_1 : Int) (x14_1 : Int), v6 = .int .i64 x6_1 ∧ v14 = .int .i64 x14_1 ∧ Aside0 (span_Rank.l0 kq a1 x6_1 l0 (l0.length : Int) x14_1 = some (r1, r2)) ∧ Aside0 (kq ≤ k) ∧ Aside0 (Below w.heap.size w w'))
   case atStart => exact ⟨(0), (0), (by first | rfl | (simp; done) | (simp [*]; done)), (by first | rfl | (simp; done) | (simp [*]; done)), H', ⟨Nat.le_refl _⟩, ⟨by repeat (first | (with_reducible first | exact HB.out | apply below_alloc | apply pw_below_drewN | apply below_drew1) | exact HB.out)⟩⟩
   case round =>
    clear H'
    try clear c2
    try clear p2
    try clear c3
    try clear c4
    obtain ⟨x6_1, x14_1, rfl, rfl, HA, HK1, HB⟩ := hrel
    cases gk with
    | zero => exact absurd HA.out (by simp [span_Rank.l0])
    | succ k1 =>
     have H := HA.out
     clear HA
     simp only [span_Rank.l0] at H
     by_cases c6 : x14_1 < (l0.length : Int)
     · rw [if_pos c6] at H
       have c6b0 : decide (x14_1 < (l0.length : Int)) = true := decide_eq_true c6
       clear c6
       by_cases c7 : 0 ≤ x14_1
       · rw [if_pos c7] at H
         have c7b0 : decide (0 ≤ x14_1) = true := decide_eq_true c7
         clear c7
         by_cases c8 : x14_1 < (l0.length : Int)
         · rw [if_pos c8] at H
           have c8b0 : decide (x14_1 < (l0.length : Int)) = true := decide_eq_true c8
           clear c8
           by_cases c9 : a1 > ((rd_T32 l0 x14_1).f0)
           · rw [if_pos c9] at H
             have c9b0 : decide (((rd_T32 l0 x14_1).f0) < a1) = true := decide_eq_true c9
             clear c9
             obtain ⟨ji10, hji10⟩ : ∃ j_ : Int, (mn a1 ((rd_T32 l0 x14_1).f1)) = j_ := ⟨_, rfl⟩
             replace H : (span_Rank.l0 k1 a1 (wrap64 (x6_1 + (wrap64 ((ji10) - ((rd_T32 l0 x14_1).f0))))) l0 (l0.length : Int) (wrap64 (x14_1 + 1))) = some (r1, r2) := by first | (rw [hji10] at H; exact H) | (simp only [hji10] at H ⊢; exact H)
             have hji10_ : (if ((rd_T32 l0 x14_1).f1) < a1 then ((rd_T32 l0 x14_1).f1) else a1) = ji10 := hji10
             have H' := Aside0.mk H
             clear H
             have p119 : 0 ≤ (x14_1 : Int) := of_decide_eq_true (by first | (with_reducible assumption) | assumption)
             have q119 : x14_1 < (l0.length : Int) := of_decide_eq_true (by first | (with_reducible assumption) | assumption)
             obtain ⟨ad119, e119, hx119_0, hx119_1⟩ := at_T32 HR0.out x14_1 p119 q119
             cases e119
             replace hx119_0 := (HB.out.cell (World.block_lt_of_cell? w _ hx119_0)).trans hx119_0
             replace hx119_1 := (HB.out.cell (World.block_lt_of_cell? w _ hx119_1)).trans hx119_1
             replace p119 := eq_true p119
             replace q119 := eq_true q119
             go_wp2_with (first | ((with_reducible refine gate_dst (N := 8) rfl ?_); refine box_event ?hg (N := 8) ?hd (cs := #[.int .i64 0, .int .i64 0]) (t := 32) ?hr ?_; (case hd => rfl); (case hg => rfl); (case hr => first | (go_simp; done) | (go_simp; rfl)); intro gb120 hg w11 hbox hb; have n0_ := Aside0.mk (below_step (by repeat (first | (with_reducible first | exact HB.out | apply below_alloc | apply pw_below_drewN | apply below_drew1) | exact HB.out)) hb); have n1_ := Aside0.mk (hbox); have n2_ := Aside0.mk ((by rw [hg]; exact (below_size (by repeat (first | (with_reducible first | exact HB.out | apply below_alloc | apply pw_below_drewN | apply below_drew1) | exact HB.out))) : w.heap.size ≤ gb120)); have n3_ := Aside0.mk ((by rw [hg]; exact (below_size (by repeat (first | (with_reducible first | exact HB.out | apply below_alloc | apply pw_below_drewN | apply below_drew1) | exact HB.out))) : w.heap.size ≤ gb120)); clear HB; have HB := n0_; have BK120 := n1_; have GW120 := n2_; have GE120 := n3_; clear n0_ n1_ n2_ n3_; clear hb hbox hg; have hcz12_0 : w11.cell? ⟨gb120, 0, none⟩ = some (.int .i64 0) := (blk_cell BK120.out 0).trans rfl; have hcz12_1 : w11.cell? ⟨gb120, 1, none⟩ = some (.int .i64 0) := (blk_cell BK120.out 1).trans rfl; have hfz12_0 := blk_frozen BK120.out 0; have hfz12_1 := blk_frozen BK120.out 1))
             go_roundg k1
             case measure => have := HK1.out; omega
             case rel => exact ⟨(wrap64 (x6_1 + (wrap64 ((ji10) - ((rd_T32 l0 x14_1).f0))))), (wrap64 (x14_1 + 1)), (by first | rfl | (simp; done) | (simp only [← hji10] <;> (first | rfl | simp)) | (simp [*]; done)), (by first | rfl | (simp; done) | (simp [*]; done)), H', ⟨by have := HK1.out; omega⟩, ⟨by repeat (first | (with_reducible first | exact HB.out | apply below_alloc | apply pw_below_drewN | apply below_drew1 | refine below_set ?_ GE120.out) | exact HB.out)⟩⟩
           · rw [if_neg c9] at H
             have c9b0 : decide (((rd_T32 l0 x14_1).f0) < a1) = false := decide_eq_false c9
             clear c9
             have H' := Aside0.mk H
             clear H
             have p119 : 0 ≤ (x14_1 : Int) := of_decide_eq_true (by first | (with_reducible assumption) | assumption)
             have q119 : x14_1 < (l0.length : Int) := of_decide_eq_true (by first | (with_reducible assumption) | assumption)
             obtain ⟨ad119, e119, hx119_0, hx119_1⟩ := at_T32 HR0.out x14_1 p119 q119
             cases e119
             replace hx119_0 := (HB.out.cell (World.block_lt_of_cell? w _ hx119_0)).trans hx119_0
             replace hx119_1 := (HB.out.cell (World.block_lt_of_cell? w _ hx119_1)).trans hx119_1
             replace p119 := eq_true p119
             replace q119 := eq_true q119
             go_wp2_with (first | ((with_reducible refine gate_dst (N := 8) rfl ?_); refine box_event ?hg (N := 8) ?hd (cs := #[.int .i64 0, .int .i64 0]) (t := 32) ?hr ?_; (case hd => rfl); (case hg => rfl); (case hr => first | (go_simp; done) | (go_simp; rfl)); intro gb120 hg w13 hbox hb; have n0_ := Aside0.mk (below_step (by repeat (first | (with_reducible first | exact HB.out | apply below_alloc | apply pw_below_drewN | apply below_drew1) | exact HB.out)) hb); have n1_ := Aside0.mk (hbox); have n2_ := Aside0.mk ((by rw [hg]; exact (below_size (by repeat (first | (with_reducible first | exact HB.out | apply below_alloc | apply pw_below_drewN | apply below_drew1) | exact HB.out))) : w.heap.size ≤ gb120)); have n3_ := Aside0.mk ((by rw [hg]; exact (below_size (by repeat (first | (with_reducible first | exact HB.out | apply below_alloc | apply pw_below_drewN | apply below_drew1) | exact HB.out))) : w.heap.size ≤ gb120)); clear HB; have HB := n0_; have BK120 := n1_; have GW120 := n2_; have GE120 := n3_; clear n0_ n1_ n2_ n3_; clear hb hbox hg; have hcz14_0 : w13.cell? ⟨gb120, 0, none⟩ = some (.int .i64 0) := (blk_cell BK120.out 0).trans rfl; have hcz14_1 : w13.cell? ⟨gb120, 1, none⟩ = some (.int .i64 0) := (blk_cell BK120.out 1).trans rfl; have hfz14_0 := blk_frozen BK120.out 0; have hfz14_1 := blk_frozen BK120.out 1))
             go_roundg k1
             case measure => have := HK1.out; omega
             case rel => exact ⟨(x6_1), (wrap64 (x14_1 + 1)), (by first | rfl | (simp; done) | (simp [*]; done)), (by first | rfl | (simp; done) | (simp [*]; done)), H', ⟨by have := HK1.out; omega⟩, ⟨by repeat (first | (with_reducible first | exact HB.out | apply below_alloc | apply pw_below_drewN | apply below_drew1 | refine below_set ?_ GE120.out) | exact HB.out)⟩⟩
         · rw [if_neg c8] at H
           exact absurd H (by simp)
       · rw [if_neg c7] at H
         exact absurd H (by simp)
     · rw [if_neg c6] at H
       have c6b0 : decide (x14_1 < (l0.length : Int)) = false := decide_eq_false c6
       clear c6
       simp only [Option.some.injEq, Prod.mk.injEq] at H
       obtain ⟨rfl, rfl⟩ := H
       go_wp2
       go_ret2
       exact ⟨by first | rfl | (simp [errW_none, errW_some] <;> rfl) | (simp [*, errW_none, errW_some] <;> rfl), by repeat (first | (with_reducible first | exact HB.out | apply below_alloc | apply pw_below_drewN | apply below_drew1) | exact HB.out)⟩
 · replace c4 := Bool.eq_false_iff.mpr c4
   subst c4
   have H1 : (some (0, 2)) = some (r1, r2) := by rw [if_neg (show ¬ (false = true) by decide)] at H; exact H
   clear H
   have H := H1
   clear H1
   simp only [Option.some.injEq, Prod.mk.injEq] at H
   obtain ⟨rfl, rfl⟩ := H
   go_enter Try.func36, Try.ntmps36
   go_wp2_with (first | ((with_reducible refine gate_callee (f := 23) rfl ?_); refine goesL_ (some 10) rfl rfl Try.func23 (by kernel_rfl) rfl #[.slice A0 l0.length c0] rfl (by (try simp only [List.map_toArray, List.map_cons, List.map_nil]); first | done | rfl | (simp only [List.length_drop, List.length_take]; rfl)) ?_; (with_reducible refine (span_Valid.calls k _ _ l0 false _ ?side1 ?side2 A3.out).mono ?_); (case side1 => repeat (first | exact HR0.out | (with_reducible refine Kd.C_alloc ?_ _) | (with_reducible refine Kd.C_drewN ?_ _) | (with_reducible refine Kd.C_drew ?_))); (case side2 => exact HC0.out); rintro e w15 ⟨rfl, hb⟩; refine ⟨_, rfl, ?_⟩; have n0_ := Aside0.mk (below_step (by repeat (first | (with_reducible first | exact HB.out | apply below_alloc | apply pw_below_drewN | apply below_drew1) | exact HB.out)) hb); clear HB; have HB := n0_; clear n0_; (try clear hb); (try clear hb2); (try clear hk); (try clear hi)))
   go_ret2
   exact ⟨by first | rfl | (simp [errW_none, errW_some] <;> rfl) | (simp [*, errW_none, errW_some] <;> rfl), by repeat (first | (with_reducible first | exact HB.out | apply below_alloc | apply pw_below_drewN | apply below_drew1) | exact HB.out)⟩
def span_Size.f (k : Nat) (l0 : List (S32)) : Option (Int × Int) := (span_Rank.f k l0 1099511627776).bind fun bt121 => (some (bt121.1, bt121.2))
theorem span_Size.mono : ∀ a0 k, LeO (span_Size.f k a0) (span_Size.f (k + 1) a0) := by
 intro a0 k
 unfold span_Size.f
 repeat' first
  | (with_reducible exact span_Rank.mono _ _ _)
  | (with_reducible exact LeO.refl _)
  | (with_reducible exact LeO.none _)
  | (with_reducible refine LeO.ite ?_ ?_)
  | (with_reducible refine LeO.bind ?_ (fun _ => ?_))
  | exact span_Rank.mono _ _ _
  | exact LeO.none _
  | refine LeO.ite ?_ ?_
  | refine LeO.bind ?_ (fun _ => ?_)
set_option maxHeartbeats 8000000 in
set_option maxRecDepth 100000 in
theorem span_Size.calls (k : Nat) (A0 : Option Addr) (c0 : Nat) (l0 : List (S32)) (r1 : Int) (r2 : Int) (w : World) (hr0 : Kd.C k32 w A0 l0.length l0) (hc0 : l0.length ≤ c0) (h : span_Size.f k l0 = some (r1, r2)) :
 Calls Try.prog 32 #[.slice A0 l0.length c0] w fun e w' => e = .returned (.tuple #[.int .i64 r1, .int .i64 r2]) ∧ Below w.heap.size w w' := by
 have HR0 := Aside0.mk hr0
 have HC0 := Aside0.mk hc0
 clear hr0 hc0
 have HB := Aside0.mk (Below.refl w.heap.size w)
 have H : ((span_Rank.f k l0 1099511627776).bind fun bt121 => (some (bt121.1, bt121.2))) = some (r1, r2) := h
 clear h
 replace H := Option.bind_eq_some_iff.mp H
 obtain ⟨⟨t121, t122⟩, A20, H⟩ := H
 replace H : (some (t121, t122)) = some (r1, r2) := H
 have A2 := Aside0.mk A20
 clear A20
 simp only [Option.some.injEq, Prod.mk.injEq] at H
 obtain ⟨rfl, rfl⟩ := H
 go_enter Try.func32, Try.ntmps32
 go_wp2_with (first | ((with_reducible refine gate_callee (f := 36) rfl ?_); refine goesL_ (some 5) rfl rfl Try.func36 (by kernel_rfl) rfl #[.slice A0 l0.length c0, .int .i64 1099511627776] rfl (by (try simp only [List.map_toArray, List.map_cons, List.map_nil]); first | done | rfl | (simp only [List.length_drop, List.length_take]; rfl)) ?_; (with_reducible refine (span_Rank.calls k _ _ l0 1099511627776 t121 t122 _ ?side1 ?side2 A2.out).mono ?_); (case side1 => repeat (first | exact HR0.out | (with_reducible refine Kd.C_alloc ?_ _) | (with_reducible refine Kd.C_drewN ?_ _) | (with_reducible refine Kd.C_drew ?_))); (case side2 => exact HC0.out); rintro e w3 ⟨rfl, hb⟩; refine ⟨_, rfl, ?_⟩; have n0_ := Aside0.mk (below_step (by repeat (first | (with_reducible first | exact HB.out | apply below_alloc | apply pw_below_drewN | apply below_drew1) | exact HB.out)) hb); clear HB; have HB := n0_; clear n0_; (try clear hb); (try clear hb2); (try clear hk); (try clear hi)))
 go_ret2
 exact ⟨by first | rfl | (simp [errW_none, errW_some] <;> rfl) | (simp [*, errW_none, errW_some] <;> rfl), by repeat (first | (with_reducible first | exact HB.out | apply below_alloc | apply pw_below_drewN | apply below_drew1) | exact HB.out)⟩
end Go.Proofs.Ytningpmoojnomaa.Pr
end
section
namespace Go.Proofs.Ytningpmoojnomaa.Pr
open Go.RowKit Go.Proofs.YtningpmoojnomaaW.PrintWords Go.Proofs.YtningpmoojnomaaW.PrintLast Go.Proofs.YtningpmoojnomaaW.PrintMore
set_option linter.unusedVariables false
set_option linter.unusedSimpArgs false
theorem rd_nat (l : List S32) (i : Nat) : rd_T32 l (i : Int) = l.getD i z32 := by unfold rd_T32; rw [Int.toNat_natCast]
theorem wrap_succ {i n : Nat} (h : i < n) (hn : n ≤ 9223372036854775807) : wrap64 ((i : Int) + 1) = ((i + 1 : Nat) : Int) := by
  unfold wrap64
  omega
theorem goodS_iff (s : S32) : goodS s = true ↔ -1099511627776 ≤ s.f0 ∧ s.f0 < s.f1 ∧ s.f1 ≤ 1099511627776 := by
  unfold goodS
  simp
end Go.Proofs.Ytningpmoojnomaa.Pr
end
section
namespace Go.Proofs.Ytningpmoojnomaa.Pr
open Go.RowKit Go.Proofs.YtningpmoojnomaaW.PrintWords Go.Proofs.YtningpmoojnomaaW.PrintLast Go.Proofs.YtningpmoojnomaaW.PrintMore
set_option linter.unusedVariables false
set_option linter.unusedSimpArgs false
def clone_Span.f (l0 : List S32) : Option (List S32) := if l0.length ≤ 8796093022208 then some l0 else none
set_option maxHeartbeats 4000000 in
set_option maxRecDepth 100000 in
theorem clone_Span.calls (A0 : Option Addr) (c0 : Nat) (l0 : List S32) (r : List S32) (w : World) (hr0 : Kd.C k32 w A0 l0.length l0) (hc0 : l0.length ≤ c0) (h : clone_Span.f l0 = some r) :
    Calls Try.prog 65 #[.slice A0 l0.length c0] w fun e w' => ∃ v0_ : Value, e = .returned v0_ ∧ Kd.R k32 32 w' w.heap.size (fun _ => True) v0_ r ∧ Below w.heap.size w w' := by
  unfold clone_Span.f at h
  split at h
  · rename_i hlen
    injection h with h
    subst h
    have qT : ∀ (w : World) (a : Option Addr) (n c n' c' : Nat), (binOp .eql 22 (.slice a n c) (.slice none n' c')).run Try.prog w = .ok (.bool a.isNone) w := fun w a n c n' c' => Lib.run_eql_slice_nil w _ _ a n c n' c' Try.underlying22
    rcases A0 with _ | ad
    · have h0 : l0 = [] := by
        rcases l0 with _ | ⟨x, xs⟩
        · rfl
        · obtain ⟨ad, h, _⟩ := hr0.2.2 (by simp)
          cases h
      subst h0
      go_enter Try.func65, Try.ntmps65
      go_wp2
      go_ret
      exact ⟨_, rfl, Kd.R_nil _ _ _ _ _, Below.refl _ _⟩
    · have HR0 := Aside0.mk hr0
      clear hr0
      have HB := Aside0.mk (Below.refl w.heap.size w)
      have hb8 := Aside0.mk hlen
      clear hlen
      go_enter Try.func65, Try.ntmps65
      go_wp2_with (first | ((with_reducible refine gate_dst (N := 5) rfl ?_); refine Kd.R_lit k32 _ 32 ?hg (N := 5) ?hd (xs := ([] : List S32)) (inner := []) (ok := fun _ => True) (okp := fun _ => True) ?hr ?hp (fun _ hk => hk) trivial (Below.refl _ _) (Nat.le_refl _) (by simp) ?_; (case hd => rfl); (case hg => rfl); (case hr => first | (go_simp; done) | (go_simp; rfl)); (case hp => exact Reps.none _ _); intro v1 w1 ho1 hb1 hg1 hn1; clear hg1 hn1; have HO := Aside0.mk (Kd.R_lower ho1 (Nat.le_refl _)); have HB1 := Aside0.mk hb1; clear ho1 hb1; clear HB; obtain ⟨Ao7, co7, eo7⟩ := Kd.R_slice HO.out; subst eo7) | (at_builtin; refine Kd.R_append_rows k32 (Rr := k32.K w) (w0 := w) w.heap.size rfl (.tmp 5) (.tmp 6) 22 32 (.agg #[(.int .i64 0), (.int .i64 0)]) 16 rfl Try.underlying22 info32 rfl (by decide) (by omega) _ ([] : List S32) l0 (some ad) l0.length c0 (fun _ => True) (fun _ => False) rfl rfl HO.out ?aR ?aK (fun _ hk => hk.elim) (fun _ _ => trivial) HB1.out HB1.out.size ?aL ?_; (case aR => exact (Kd.C_below HR0.out HB1.out)); (case aK => (intro x cs hx; exact (k32_open hx) ▸ k32_mkM _ _ _ x)); (case aL => (have := hb8.out; simp; omega)); intro v2 w2 ho2 hb2 hg2 hn2; clear hg2 hn2; rw [List.nil_append] at ho2; have HO2 := Aside0.mk ho2; have HB2 := Aside0.mk hb2; clear ho2 hb2 HO HB1; obtain ⟨Ao8, co8, eo8⟩ := Kd.R_slice HO2.out; subst eo8))
      go_ret
      exact ⟨_, rfl, HO2.out, HB2.out⟩
  · cases h
end Go.Proofs.Ytningpmoojnomaa.Pr
end
section
namespace Go.Proofs.Ytningpmoojnomaa.Pr
open Go.RowKit Go.Sort Go.Shelf Go.Proofs.YtningpmoojnomaaW.PrintWords Go.Proofs.YtningpmoojnomaaW.PrintLast Go.Proofs.YtningpmoojnomaaW.PrintMore
set_option linter.unusedVariables false
set_option linter.unusedSimpArgs false
theorem heap_put {w : World} {g m : Nat} {e : TypeId} {cur : Array Value} {F : Array Value} (os : Array Obj) (hb : w.heap[g]? = some (.cells cur e (0, 0))) :
    (grow (putRow id (Sort.ahead w m) g 0 F) os).heap[g]? = some (.cells (putCells id 0 F cur) e (0, 0)) := by
  have hg : g < w.heap.size := (Array.getElem?_eq_some_iff.1 hb).1
  have h1 : (putRow id (Sort.ahead w m) g 0 F).heap[g]? = some (.cells (putCells id 0 F cur) e (0, 0)) := by
    simp only [putRow, mapBlock, Sort.ahead, Array.getElem?_modify, if_true, hb, Option.map_some, onCells]
  unfold grow
  simp only
  rw [Array.getElem?_append_left (by simpa [putRow, mapBlock, Sort.ahead] using hg)]
  exact h1
theorem grownBy_put {w : World} {g m : Nat} {os : Array Obj} (F : Array Value) : w.grownBy (grow (putRow id (Sort.ahead w m) g 0 F) os) (some g) := by
  refine ⟨rfl, rfl, rfl, by simp [grow, putRow, mapBlock, Sort.ahead], fun k hk hne => ?_⟩
  have : g ≠ k := fun e => hne (by rw [e])
  unfold grow
  simp only
  rw [Array.getElem?_append_left (by simpa [putRow, mapBlock, Sort.ahead] using hk)]
  simp [putRow, mapBlock, Sort.ahead, Array.getElem?_modify, this]
theorem take_put (cur : Array Value) (ts : List Value) (h : ts.length ≤ cur.size) : (putCells id 0 ts.toArray cur).toList.take ts.length = ts := by
  apply List.ext_getElem
  · simp [putCells]
    omega
  · intro i h1 h2
    simp only [putCells, List.getElem_take, Array.getElem_toList, Array.getElem_mapIdx]
    rw [if_pos ⟨by omega, by simpa using h2⟩]
    simp only [id, Nat.sub_zero]
    rw [getElem!_pos _ i (by simpa using h2)]
    simp
theorem own_put {w : World} {base g cap n k m : Nat} {e : TypeId} {os : Array Obj} {cur : Array Value} {ts : List Value} (hbase : base ≤ g) (hb : w.heap[g]? = some (.cells cur e (0, 0)))
    (h1 : n ≤ cap) (h2 : cap ≤ maxLen) (h3 : cur.size = cap * k) (hl : ts.length = n * k) :
    (grow (putRow id (Sort.ahead w m) g 0 ts.toArray) os).ownsRow base e k (.slice (some ⟨g, 0, none⟩) n cap) n ts := by
  refine ⟨hl, .inr ⟨g, cap, _, rfl, hbase, heap_put os hb, h1, h2, by simp [putCells, h3], ?_⟩⟩
  rw [← hl]
  exact take_put cur ts (by rw [hl, h3]; exact Nat.mul_le_mul_right _ h1)
/-- A span's two cells. -/
def encS (x : S32) : List Value := [.int .i64 x.f0, .int .i64 x.f1]
instance : Inhabited S32 := ⟨z32⟩
theorem reps_flat (w : World) (base : Nat) (ok : Nat → Prop) (ts : List S32) : Reps (k32.M w base ok) 2 ts (flatK encS 2 ts.toArray).toList := by
  refine ⟨by simp, fun j p hj => ?_⟩
  obtain ⟨hjl, hp⟩ := List.getElem?_eq_some_iff.1 hj
  have : ((flatK encS 2 ts.toArray).toList.drop (j * 2)).take 2 = encS p := by
    apply List.ext_getElem
    · simp [encS]
      omega
    · intro i h1 h2
      have hi : i < 2 := by simpa [encS] using h2
      have e1 : (j * 2 + i) / 2 = j := by omega
      have e2 : (j * 2 + i) % 2 = i := by omega
      simp only [List.getElem_take, List.getElem_drop, Array.getElem_toList]
      have hlt : j * 2 + i < (flatK encS 2 ts.toArray).size := by simp; omega
      have := get_flatK encS 2 ts.toArray (j * 2 + i) (by simp; omega)
      rw [getElem!_pos (flatK encS 2 ts.toArray) (j * 2 + i) hlt, e1, e2] at this
      rw [this]
      rw [getElem!_pos ts.toArray j (by simpa using hjl)]
      simp only [List.getElem_toArray, hp]
      rw [getElem!_pos (encS p) i (by simpa [encS] using hi)]
  rw [this]
  exact k32_mkM w base ok p
/-- WHAT IS OWNED IS HELD, and laid anew it is owned again. -/
theorem own_bridge {W : World} {base g n cap : Nat} {ok : Nat → Prop} {xs : List S32} (h : Kd.R k32 32 W base ok (.slice (some ⟨g, 0, none⟩) n cap) xs) :
    n = xs.length ∧ HoldsK encS 2 W g 0 xs.toArray ∧ g < W.heap.size ∧ base ≤ g ∧ ∀ (m : Nat) (os : Array Obj) (d : List S32), d.length = xs.length →
      Kd.R k32 32 (sortWorldK encS 2 W g 0 m d.toArray os) base ok (.slice (some ⟨g, 0, none⟩) n cap) d ∧ W.grownBy (sortWorldK encS 2 W g 0 m d.toArray os) (some g) := by
  have hn := (Kd.R_reads' h).1
  subst hn
  refine ⟨rfl, ?_, ?_⟩
  · intro j hj
    have hj' : j < xs.length * 2 := by simpa using hj
    have hq : j / 2 < xs.length := by omega
    obtain ⟨ce, hcl, hM, hcc, hfr⟩ := Kd.R_elem h z32 ((j / 2 : Nat) : Int) (by omega) (by omega)
    obtain rfl := k32_openM hM
    rw [get_flatK _ _ _ _ (by simpa using hj')]
    rw [Int.toNat_natCast] at hcc hfr
    rw [getElem!_pos xs.toArray (j / 2) (by simpa using hq)]
    have e0 : 0 + j = j / 2 * 2 + j % 2 := by omega
    rw [e0]
    have ex : xs.getD (j / 2) z32 = xs[j / 2] := by simp [List.getD_eq_getElem?_getD, List.getElem?_eq_getElem hq]
    refine ⟨hcc (j % 2) _ ?_, hfr (j % 2)⟩
    rw [ex]
    rcases Nat.mod_two_eq_zero_or_one j with e | e <;> rw [e] <;> simp [encS]
  · obtain ⟨h0, inner, hown, hr⟩ := h
    rcases hown.2 with ⟨e, _⟩ | ⟨g', cap', cur, e, hbase, hb, h1, h2, h3, h4⟩
    · cases e
    · injection e with e1 _ e3
      injection e1 with e1
      injection e1 with e1
      subst e1 e3
      refine ⟨(Array.getElem?_eq_some_iff.1 hb).1, hbase, fun m os d hd => ⟨⟨h0, _, ?_, reps_flat _ _ _ d⟩, grownBy_put _⟩⟩
      have := own_put (w := W) (base := base) (g := g) (cap := cap) (n := xs.length) (k := 2) (m := m) (e := 32) (os := os) (cur := cur) (ts := (flatK encS 2 d.toArray).toList) hbase hb h1 h2 h3 (by simp [hd])
      rw [hd]
      unfold sortWorldK putRowK
      rw [Array.toArray_toList] at this
      exact this
end Go.Proofs.Ytningpmoojnomaa.Pr
end
section
namespace Go.Proofs
open Go.Shelf
def Try.lays122_ren : Go.Shelf.Ren := ⟨fun | 122 => 68 | 215 => 95 | n => n, fun | 3 => 3 | 4 => 4 | n => n, fun | n => n⟩
theorem Try.lays122 : Go.Proofs.Lays.n122 Try.prog Try.lays122_ren := {
  mixed := by kernel_rfl
  f122 := Try.func68.trans (congrArg some (by kernel_rfl))
  f215 := Try.func95.trans (congrArg some (by kernel_rfl))
  t3 := Try.underlying3
  a3 := Try.isAgg3
  z3 := Try.sizeOf3
  v3 := Try.zeroValue3
  t4 := Try.underlying4
  a4 := Try.isAgg4
  z4 := Try.sizeOf4
  v4 := Try.zeroValue4 }
open Go.RowKit in
/-- cmp.Compare at int: "Compare returns -1 if x is less than y, 0 if x equals y, +1 if x is greater than y.": IT RETURNS 'Lib.compareInt x y'; the world is asx it was. (LAID: no walk: one application.) -/
theorem Try.cmp_Compare_int (x y : Int) (w : World) :
    Calls Try.prog 68 #[.int .i64 x, .int .i64 y] w fun e w' => e = .returned (.int .i64 (Lib.compareInt x y)) ∧ w' = w := Any.cmp_Compare_int Try.lays122 x y w
def Try.sort66_ren : Go.Shelf.Ren := ⟨fun | 6 => 66 | 15 => 94 | 14 => 93 | 28 => 109 | 29 => 110 | 20 => 101 | 21 => 102 | 22 => 103 | 23 => 104 | 24 => 105 | 25 => 106 | 26 => 107 | 27 => 108 | 46 => 115 | 47 => 116 | 48 => 117 | 49 => 118 | 50 => 119 | 57 => 123 | n => n, fun | 22 => 22 | 24 => 32 | 25 => 69 | 3 => 3 | 39 => 85 | 0 => 0 | 53 => 101 | 55 => 103 | 4 => 4 | 46 => 94 | 45 => 93 | 50 => 98 | 5 => 5 | 9 => 9 | 66 => 109 | 70 => 113 | 76 => 118 | 77 => 119 | n => n, fun | n => n⟩
theorem Try.sort66 : Go.Proofs.SlLaysF0.n6 Try.prog Try.sort66_ren := {
  mixed := by kernel_rfl
  f6 := ⟨Try.f66.name, by decide, Try.func66.trans (congrArg some (by kernel_rfl))⟩
  f14 := ⟨Try.f93.name, by decide, Try.func93.trans (congrArg some (by kernel_rfl))⟩
  f15 := Try.func94.trans (congrArg some (by kernel_rfl))
  f20 := ⟨Try.f101.name, by decide, Try.func101.trans (congrArg some (by kernel_rfl))⟩
  f21 := ⟨Try.f102.name, by decide, Try.func102.trans (congrArg some (by kernel_rfl))⟩
  f22 := ⟨Try.f103.name, by decide, Try.func103.trans (congrArg some (by kernel_rfl))⟩
  f23 := ⟨Try.f104.name, by decide, Try.func104.trans (congrArg some (by kernel_rfl))⟩
  f24 := ⟨Try.f105.name, by decide, Try.func105.trans (congrArg some (by kernel_rfl))⟩
  f25 := ⟨Try.f106.name, by decide, Try.func106.trans (congrArg some (by kernel_rfl))⟩
  f26 := ⟨Try.f107.name, by decide, Try.func107.trans (congrArg some (by kernel_rfl))⟩
  f27 := ⟨Try.f108.name, by decide, Try.func108.trans (congrArg some (by kernel_rfl))⟩
  f28 := Try.func109.trans (congrArg some (by kernel_rfl))
  f29 := Try.func110.trans (congrArg some (by kernel_rfl))
  f46 := ⟨Try.f115.name, by decide, Try.func115.trans (congrArg some (by kernel_rfl))⟩
  f47 := Try.func116.trans (congrArg some (by kernel_rfl))
  f48 := Try.func117.trans (congrArg some (by kernel_rfl))
  f49 := ⟨Try.f118.name, by decide, Try.func118.trans (congrArg some (by kernel_rfl))⟩
  f50 := ⟨Try.f119.name, by decide, Try.func119.trans (congrArg some (by kernel_rfl))⟩
  f57 := ⟨Try.f123.name, by decide, Try.func123.trans (congrArg some (by kernel_rfl))⟩
  t0 := Try.underlying0
  a0 := Try.isAgg0
  z0 := Try.sizeOf0
  v0 := Try.zeroValue0
  t3 := Try.underlying3
  a3 := Try.isAgg3
  z3 := Try.sizeOf3
  v3 := Try.zeroValue3
  t4 := Try.underlying4
  a4 := Try.isAgg4
  z4 := Try.sizeOf4
  v4 := Try.zeroValue4
  t5 := Try.underlying5
  a5 := Try.isAgg5
  z5 := Try.sizeOf5
  v5 := Try.zeroValue5
  t9 := Try.underlying9
  a9 := Try.isAgg9
  z9 := Try.sizeOf9
  v9 := Try.zeroValue9
  t22 := Try.underlying22
  a22 := Try.isAgg22
  z22 := Try.sizeOf22
  v22 := Try.zeroValue22
  t25 := Try.underlying69
  a25 := Try.isAgg69
  z25 := Try.sizeOf69
  v25 := Try.zeroValue69
  t39 := Try.underlying85
  a39 := Try.isAgg85
  z39 := Try.sizeOf85
  v39 := Try.zeroValue85
  t45 := Try.underlying93
  a45 := Try.isAgg93
  z45 := Try.sizeOf93
  v45 := Try.zeroValue93
  t46 := Try.underlying94
  a46 := Try.isAgg94
  z46 := Try.sizeOf94
  v46 := Try.zeroValue94
  t50 := Try.underlying98
  a50 := Try.isAgg98
  z50 := Try.sizeOf98
  v50 := Try.zeroValue98
  t53 := Try.underlying101
  a53 := Try.isAgg101
  z53 := Try.sizeOf101
  v53 := Try.zeroValue101
  t55 := Try.underlying103
  a55 := Try.isAgg103
  z55 := Try.sizeOf103
  v55 := Try.zeroValue103
  t66 := Try.underlying109
  a66 := Try.isAgg109
  z66 := Try.sizeOf109
  v66 := Try.zeroValue109
  t70 := Try.underlying113
  a70 := Try.isAgg113
  z70 := Try.sizeOf113
  v70 := Try.zeroValue113
  t76 := Try.underlying118
  a76 := Try.isAgg118
  z76 := Try.sizeOf118
  v76 := Try.zeroValue118
  t77 := Try.underlying119
  a77 := Try.isAgg119
  z77 := Try.sizeOf119
  v77 := Try.zeroValue119 }
end Go.Proofs
end
section
namespace Go.Proofs.Ytningpmoojnomaa.Pr
open Go.RowKit Go.Sort Go.Shelf Go.Lib Go.Proofs.YtningpmoojnomaaW.PrintWords Go.Proofs.YtningpmoojnomaaW.PrintLast Go.Proofs.YtningpmoojnomaaW.PrintMore
set_option linter.unusedVariables false
set_option linter.unusedSimpArgs false
def cmpLo (x y : S32) : Int := Lib.compareInt x.f0 y.f0
def sortLo (l : List S32) : List S32 := (pdq (ltOf cmpLo) l.toArray 0 l.length (Lib.bitLen l.length) true true).toList
theorem ltOf_cmpLo (x y : S32) : ltOf cmpLo x y = decide (x.f0 < y.f0) := by
  unfold ltOf cmpLo Lib.compareInt
  by_cases h : x.f0 < y.f0
  · simp [h]
  · by_cases h2 : x.f0 > y.f0
    · simp [h, h2]
    · simp [h, h2]
theorem swo_cmpLo : SWO (ltOf cmpLo) where
  irrefl := fun x => by rw [ltOf_cmpLo]; simp
  trans := fun x y z h1 h2 => by rw [ltOf_cmpLo] at *; simp at *; omega
  ntrans := fun x y z h1 h2 => by rw [ltOf_cmpLo] at *; simp at *; omega
theorem sortLo_sorts (l : List S32) : PermIn 0 l.toArray.size l.toArray (sortLo l).toArray ∧ SortedIn (ltOf cmpLo) 0 l.toArray.size (sortLo l).toArray := by
  have h := pdq_sorts (ltOf cmpLo) swo_cmpLo l.toArray 0 l.toArray.size (Lib.bitLen l.toArray.size) true true (Nat.zero_le _) (Nat.le_refl _) (Or.inl rfl)
  unfold sortLo
  rw [Array.toArray_toList]
  exact h
theorem sortLo_perm (l : List S32) : (sortLo l).Perm l := by
  obtain ⟨⟨hs, _, hp⟩, _⟩ := sortLo_sorts l
  have e1 : ((sortLo l).toArray.extract 0 l.toArray.size).toList = sortLo l := by
    rw [← hs]
    simp
  have e2 : (l.toArray.extract 0 l.toArray.size).toList = l := by simp
  rw [e1, e2] at hp
  exact hp
theorem sortLo_length (l : List S32) : (sortLo l).length = l.length := (sortLo_perm l).length_eq
set_option maxHeartbeats 1000000 in
theorem closure67 (x y : S32) (W : World) : Calls Try.prog 67 #[.agg #[.int .i64 x.f0, .int .i64 x.f1], .agg #[.int .i64 y.f0, .int .i64 y.f1]] W fun e w' => e = .returned (.int .i64 (cmpLo x y)) ∧ ∃ q os', w' = grow (W.drewN q) os' := by
  have HC := Aside0.mk (fun W' => Try.cmp_Compare_int x.f0 y.f0 W')
  unfold cmpLo
  generalize Lib.compareInt x.f0 y.f0 = r at HC ⊢
  go_enter Try.func67, Try.ntmps67
  go_wp2_with (go_at_call 68; refine (HC.out _).mono ?_; rintro e w' ⟨rfl, rfl⟩)
  go_ret
  exact ⟨rfl, 0, _, by rw [alloc_eq_grow, alloc_eq_grow, grow_grow]; rfl⟩
theorem cmpLays67 (blk off size : Nat) (w : World) : CmpLays Try.prog 67 #[] encS 2 cmpLo blk off size w :=
  fun _ _ _ _ x y => closure67 x y _
/-- slices.SortFunc on a row of the call's own. -/
theorem sortFunc_own (W : World) (base g n cap : Nat) (ok : Nat → Prop) (xs : List S32) (h : Kd.R k32 32 W base ok (.slice (some ⟨g, 0, none⟩) n cap) xs) (hlen : xs.length < 4611686018427387904) :
    Calls Try.prog 66 #[.slice (some ⟨g, 0, none⟩) n cap, .func (.func 67) #[] #[]] W fun e w' => e = .returned (.tuple #[]) ∧ Kd.R k32 32 w' base ok (.slice (some ⟨g, 0, none⟩) n cap) (sortLo xs) ∧ W.grownBy w' (some g) := by
  obtain ⟨rfl, hH, hg, hbase, hput⟩ := own_bridge h
  have eg : ∀ args w, (callFunc 67 args).run Try.prog w = .ok (.enter 67 args) w := enters_of Try.func67 (by kernel_rfl) rfl
  have hcon := AnyQ.slices_SortFunc_eq Try.sort66 2 Try.isAgg32 Try.sizeOf32 encS (fun _ => rfl) (fun x v hv => by simp [encS] at hv; rcases hv with rfl | rfl <;> rfl) cmpLo swo_cmpLo 67 #[] g 0 cap xs.toArray W eg (cmpLays67 g 0 _ W) hH hg (by simpa using hlen)
  change Calls Try.prog 66 _ _ _ at hcon
  refine hcon.mono ?_
  rintro e w' ⟨rfl, m, os, rfl⟩
  have := hput m os (sortLo xs) (sortLo_length xs)
  unfold sortLo at this ⊢
  rw [Array.toArray_toList] at this
  exact ⟨rfl, by simpa using this.1, by simpa using this.2⟩
theorem sortFunc_none (W : World) (p : Option Addr) (cap : Nat) :
    Calls Try.prog 66 #[.slice p 0 cap, .func (.func 67) #[] #[]] W fun e w' => e = .returned (.tuple #[]) ∧ w' = W :=
  AnyF.slices_SortFunc_none Try.sort66 p cap _ W
/-- .. whether nil or not. -/
theorem sortFunc_any (W : World) (base : Nat) (ok : Nat → Prop) (v : Value) (xs : List S32) (h : Kd.R k32 32 W base ok v xs) (hlen : xs.length < 4611686018427387904) :
    Calls Try.prog 66 #[v, .func (.func 67) #[] #[]] W fun e w' => e = .returned (.tuple #[]) ∧ Kd.R k32 32 w' base ok v (sortLo xs) ∧ W.grownBy w' v.ownBlock := by
  rcases h.2 with ⟨inner, ⟨hi, hh⟩, hr⟩
  rcases hh with ⟨rfl, hn⟩ | ⟨g, cap, cur, rfl, _⟩
  · obtain rfl : xs = [] := List.eq_nil_of_length_eq_zero hn
    have e0 : sortLo [] = [] := List.eq_nil_of_length_eq_zero (by rw [sortLo_length]; rfl)
    rw [e0]
    refine (sortFunc_none W none 0).mono ?_
    rintro e w' ⟨rfl, rfl⟩
    exact ⟨rfl, h, World.grownBy.refl _ _⟩
  · exact sortFunc_own W base g xs.length cap ok xs h hlen
def span_Of.f (k : Nat) (l0 : List S32) : Option (List S32 × Int) :=
  (span_listed.f l0).bind fun e => if e = 0 then (clone_Span.f l0).bind fun o => (span_joined.f k (sortLo o)).bind fun j => some (j, 0) else some ([], e)
theorem span_Of.mono : ∀ a0 k, LeO (span_Of.f k a0) (span_Of.f (k + 1) a0) := by
  intro a0 k
  unfold span_Of.f
  refine LeO.bind (LeO.refl _) (fun t => LeO.ite (LeO.bind (LeO.refl _) (fun o => LeO.bind (span_joined.mono _ _) (fun _ => LeO.refl _))) (LeO.refl _))
set_option maxHeartbeats 4000000 in
set_option maxRecDepth 100000 in
theorem span_Of.calls (k : Nat) (A0 : Option Addr) (c0 : Nat) (l0 : List S32) (r1 : List S32) (r2 : Int) (w : World) (hr0 : Kd.C k32 w A0 l0.length l0) (hc0 : l0.length ≤ c0) (h : span_Of.f k l0 = some (r1, r2)) :
    Calls Try.prog 19 #[.slice A0 l0.length c0] w fun e w' => ∃ v0_ : Value, e = .returned (.tuple #[v0_, .int .i64 r2]) ∧ Kd.R k32 32 w' w.heap.size (fun _ => True) v0_ r1 ∧ Below w.heap.size w w' := by
  have hm : l0.length ≤ 9223372036854775807 := hr0.2.1
  have HR0 := Aside0.mk hr0
  have HC0 := Aside0.mk hc0
  have HM := Aside0.mk hm
  clear hr0 hc0 hm
  unfold span_Of.f at h
  obtain ⟨t, ht, h⟩ := Option.bind_eq_some_iff.mp h
  have HT := Aside0.mk ht
  clear ht
  by_cases h0 : t = 0
  · rw [if_pos h0] at h
    subst h0
    obtain ⟨o, ho, h⟩ := Option.bind_eq_some_iff.mp h
    obtain ⟨j, hj, h⟩ := Option.bind_eq_some_iff.mp h
    simp at h
    obtain ⟨rfl, rfl⟩ := h
    have HO := Aside0.mk ho
    have eo : o = l0 ∧ l0.length ≤ 8796093022208 := by
      unfold clone_Span.f at ho
      split at ho
      · rename_i hl
        injection ho with ho
        exact ⟨ho.symm, hl⟩
      · cases ho
    obtain ⟨rfl, hl⟩ := eo
    have HJ := Aside0.mk hj
    have HL := Aside0.mk hl
    clear ho hj hl
    go_enter Try.func19, Try.ntmps19
    go_wp2_with (go_at_call 64; refine (span_listed.calls _ _ o 0 _ HR0.out HC0.out HT.out).mono ?_; rintro e w1 ⟨rfl, hb1⟩)
    have HB1 := Aside0.mk hb1
    clear hb1
    go_wp2_with (go_at_call 65; refine (clone_Span.calls _ _ o o _ (Kd.C_below HR0.out HB1.out) HC0.out HO.out).mono ?_; rintro e w2 ⟨v, rfl, hr2, hb2⟩)
    have HB2 := Aside0.mk (below_then HB1.out HB1.out.size hb2)
    have HR2 := Aside0.mk (Kd.R_lower hr2 HB1.out.size)
    clear hb2 hr2 HB1
    have HS := Aside0.mk (sortFunc_any _ _ _ _ _ HR2.out (by have := HL.out; omega))
    obtain ⟨A2, c2, e2⟩ := Kd.R_slice HR2.out
    subst e2
    go_wp2_with (go_at_call 66; refine HS.out.mono ?_; rintro e w3 ⟨rfl, hr3, hg3⟩)
    have HB3 := Aside0.mk (HB2.out.grown hg3 HB2.out.size (fun k hk => Kd.R_base HR2.out k hk))
    have hC := fun W h1 h2 => span_joined.calls k A2 c2 (sortLo o) j W h1 h2 HJ.out
    have hr := Kd.R_reads' hr3
    rw [sortLo_length] at hC hr
    have HC := Aside0.mk hC
    clear hC
    have HRR := Aside0.mk hr
    clear hr
    go_wp2_with (go_at_call 69; refine (HC.out _ HRR.out.2.2 HRR.out.2.1).mono ?_; rintro e w4 ⟨v4, rfl, hr4, hb4⟩; obtain ⟨A4, c4, e4⟩ := Kd.R_slice hr4; subst e4)
    go_ret2
    exact ⟨_, rfl, Kd.R_lower hr4 HB3.out.size, below_then HB3.out HB3.out.size hb4⟩
  · rw [if_neg h0] at h
    injection h with h
    injection h with h1 h2
    subst h1 h2
    have hn : (t == 0) = false := by simpa using h0
    have hn2 : (t != 0) = true := by simpa using h0
    go_enter Try.func19, Try.ntmps19
    go_wp2_with (go_at_call 64; refine (span_listed.calls _ _ l0 t _ HR0.out HC0.out HT.out).mono ?_; rintro e w1 ⟨rfl, hb1⟩)
    go_ret2
    exact ⟨_, rfl, Kd.R_nil _ _ _ _ _, hb1⟩
end Go.Proofs.Ytningpmoojnomaa.Pr
end
section
namespace Go.Proofs.Ytningpmoojnomaa.Pr
open Go.RowKit Go.Proofs.YtningpmoojnomaaW.PrintWords Go.Proofs.YtningpmoojnomaaW.PrintLast Go.Proofs.YtningpmoojnomaaW.PrintMore
set_option linter.unusedVariables false
set_option linter.unusedSimpArgs false
theorem dropI (l : List Int) (i : Nat) (h : i < l.length) : l.drop i = rd l (i : Int) :: l.drop (i + 1) := by
  rw [List.drop_eq_getElem_cons h]
  unfold rd
  simp [List.getD_eq_getElem?_getD, List.getElem?_eq_getElem h]
end Go.Proofs.Ytningpmoojnomaa.Pr
end
section
namespace Go.Proofs.Ytningpmoojnomaa.Pr
open Go.RowKit Go.Proofs.YtningpmoojnomaaW.PrintWords Go.Proofs.YtningpmoojnomaaW.PrintLast Go.Proofs.YtningpmoojnomaaW.PrintMore
set_option linter.unusedVariables false
set_option linter.unusedSimpArgs false
/-- What is said of a list of spans: 3 too long, 2 not good, 0. -/
def listR (l : List S32) : Int := if l.length > 128 then 3 else if l.any (fun x => !goodS x) then 2 else 0
theorem listed_f (l : List S32) : span_listed.f l = some (listR l) := by
  unfold span_listed.f listR
  by_cases h : l.length > 128
  · rw [if_pos h, if_pos h]
  · rw [if_neg h, if_neg h]
    cases l.any (fun x => !goodS x) <;> rfl
theorem listR_good {l : List S32} (h : listR l = 0) : l.length ≤ 128 ∧ ∀ s ∈ l, -1099511627776 ≤ s.f0 ∧ s.f0 < s.f1 ∧ s.f1 ≤ 1099511627776 := by
  unfold listR at h
  by_cases h1 : l.length > 128
  · rw [if_pos h1] at h; omega
  · rw [if_neg h1] at h
    by_cases h2 : l.any (fun x => !goodS x) = true
    · rw [if_pos h2] at h; omega
    · refine ⟨by omega, fun s hs => ?_⟩
      rw [← goodS_iff]
      simp only [List.any_eq_true, Bool.not_eq_true'] at h2
      exact Decidable.byContradiction fun hc => h2 ⟨s, hs, Bool.eq_false_iff.2 hc⟩
end Go.Proofs.Ytningpmoojnomaa.Pr
end
section
namespace Go.Proofs.Ytningpmoojnomaa.Pr
open Go.RowKit Go.Proofs.YtningpmoojnomaaW.PrintWords Go.Proofs.YtningpmoojnomaaW.PrintLast Go.Proofs.YtningpmoojnomaaW.PrintMore
set_option linter.unusedVariables false
set_option linter.unusedSimpArgs false
/-- The better of the span in hand (its index; -1: none) and the i-th one, for the number x. -/
def takesB (l : List S32) (x b : Int) (i : Nat) : Bool := decide ((l.getD i z32).f0 ≤ x) && (decide (x < (l.getD i z32).f1) && (decide (b < 0) || decide ((l.getD i z32).f1 > (l.getD b.toNat z32).f1)))
def bestF (l : List S32) (x : Int) : Nat → Nat → Int → Int
  | 0, _, b => b
  | d + 1, i, b => bestF l x d (i + 1) (if takesB l x b i = true then (i : Int) else b)
def best (l : List S32) (x : Int) : Int := bestF l x l.length 0 (-1)
def holds (l : List S32) (x : Int) (j : Nat) : Prop := (l.getD j z32).f0 ≤ x ∧ x < (l.getD j z32).f1
def BestAt (l : List S32) (x : Int) (i : Nat) (b : Int) : Prop :=
  (b = -1 ∧ ∀ j, j < i → ¬ holds l x j) ∨ ∃ m : Nat, m < i ∧ b = (m : Int) ∧ holds l x m ∧ ∀ j, j < i → holds l x j → (l.getD j z32).f1 ≤ (l.getD m z32).f1
theorem bestAt_step (l : List S32) (x : Int) (i : Nat) (b : Int) (h : BestAt l x i b) : BestAt l x (i + 1) (if takesB l x b i = true then (i : Int) else b) := by
  unfold takesB
  rcases h with ⟨rfl, h⟩ | ⟨m, hm, rfl, h1, h2⟩
  · by_cases hc : holds l x i
    · obtain ⟨c1, c2⟩ := hc
      rw [decide_eq_true c1, decide_eq_true c2]
      simp only [Int.reduceNeg, Int.reduceLT, decide_true, Bool.true_or, Bool.and_self, if_true]
      refine .inr ⟨i, by omega, rfl, ⟨c1, c2⟩, fun j hj hh => ?_⟩
      rcases Nat.lt_succ_iff_lt_or_eq.1 hj with hj | rfl
      · exact absurd hh (h j hj)
      · exact Int.le_refl _
    · rw [if_neg (by
        simp only [Bool.and_eq_true, decide_eq_true_eq]
        exact fun hh => hc ⟨hh.1, hh.2.1⟩)]
      refine .inl ⟨rfl, fun j hj => ?_⟩
      rcases Nat.lt_succ_iff_lt_or_eq.1 hj with hj | rfl
      · exact h j hj
      · exact hc
  · by_cases hc : holds l x i ∧ (l.getD i z32).f1 > (l.getD m z32).f1
    · obtain ⟨⟨c1, c2⟩, c3⟩ := hc
      rw [decide_eq_true c1, decide_eq_true c2, Int.toNat_natCast, decide_eq_true c3]
      simp only [Bool.or_true, Bool.and_self, if_true]
      refine .inr ⟨i, by omega, rfl, ⟨c1, c2⟩, fun j hj hh => ?_⟩
      rcases Nat.lt_succ_iff_lt_or_eq.1 hj with hj | rfl
      · have := h2 j hj hh; omega
      · exact Int.le_refl _
    · rw [if_neg (by
        simp only [Bool.and_eq_true, Bool.or_eq_true, decide_eq_true_eq, Int.toNat_natCast]
        exact fun hh => hc ⟨⟨hh.1, hh.2.1⟩, by rcases hh.2.2 with h | h <;> omega⟩)]
      refine .inr ⟨m, by omega, rfl, h1, fun j hj hh => ?_⟩
      rcases Nat.lt_succ_iff_lt_or_eq.1 hj with hj | rfl
      · exact h2 j hj hh
      · exact Int.not_lt.1 fun hc' => hc ⟨hh, hc'⟩
theorem bestF_at (l : List S32) (x : Int) : ∀ (d i : Nat) (b : Int), BestAt l x i b → BestAt l x (i + d) (bestF l x d i b)
  | 0, i, b, h => h
  | d + 1, i, b, h => by
    have := bestF_at l x d (i + 1) _ (bestAt_step l x i b h)
    rw [show i + (d + 1) = i + 1 + d by omega]
    exact this
theorem best_at (l : List S32) (x : Int) : BestAt l x l.length (best l x) := by
  have := bestF_at l x l.length 0 (-1) (.inl ⟨rfl, fun j hj => absurd hj (Nat.not_lt_zero _)⟩)
  rwa [Nat.zero_add] at this
/-- The steps of the greedy rule up to hi. -/
def cov (l : List S32) (hi : Int) : Nat → Int → List Int → List Int → List Int × List Int × Int
  | 0, _, t, a => (t, a, 0)
  | d + 1, x, t, a => if x < hi then (if best l x < 0 then ([], [], 10) else cov l hi d (l.getD (best l x).toNat z32).f1 (t ++ [best l x]) (a ++ [x])) else (t, a, 0)
theorem covered_l1 (l : List S32) (hn : l.length ≤ 1000) (t a : List Int) (x lo hi : Int) (ht : t.length < 17592186044416) (ha : a.length < 17592186044416) (r : List Int × List Int × Int) : ∀ (d i : Nat) (b : Int), l.length - i = d → i ≤ l.length → (b = -1 ∨ ∃ m : Nat, m < l.length ∧ b = (m : Int)) →
    (∀ z, bestF l x d i b = z → Ev (fun k => if z < 0 then some ([], [], 10) else span_covered.l0 k l (t ++ [z]) (a ++ [x]) (l.getD z.toNat z32).f1 lo hi) r) →
    Ev (fun k => span_covered.l1 k l t a x b l (l.length : Int) (i : Int) lo hi) r
  | 0, i, b, h, _, hb, hr => by
    have hr := hr b rfl
    refine Ev.step (fun k => ?_) hr
    simp only [span_covered.l1]
    rw [if_neg (by omega)]
    rcases hb with rfl | ⟨m, hm, rfl⟩
    · rw [if_pos (show (-1 : Int) < 0 by omega), if_pos (show (-1 : Int) < 0 by omega)]
    · rw [if_neg (show ¬ (m : Int) < 0 by omega), if_neg (show ¬ (m : Int) < 0 by omega), if_pos ht, if_pos ha, if_pos (show (0 : Int) ≤ (m : Int) by omega), if_pos (show (m : Int) < (l.length : Int) by omega), rd_nat, Int.toNat_natCast]
  | d + 1, i, b, h, hi', hb, hr => by
    have hi0 : i < l.length := by clear hb hr; omega
    have e1 : l.length - (i + 1) = d := by clear hb hr; omega
    refine Ev.step (f := fun k => span_covered.j2 k l t a x b (i : Int) l (l.length : Int) (i : Int) (takesB l x b i) lo hi) (fun k => ?_) ?_
    · simp only [span_covered.l1, takesB]
      rw [if_pos (by omega), if_pos (by omega), if_pos (by omega), rd_nat]
      by_cases c1 : (l.getD i z32).f0 ≤ x
      · rw [if_pos c1, decide_eq_true c1]
        by_cases c2 : x < (l.getD i z32).f1
        · rw [if_pos c2, decide_eq_true c2]
          rcases hb with rfl | ⟨m, hm, rfl⟩
          · rw [if_pos (by omega)]
            simp
          · rw [if_neg (by omega), if_pos (by omega), if_pos (by omega), rd_nat, Int.toNat_natCast, decide_eq_false (show ¬ ((m : Nat) : Int) < 0 by omega)]
            simp
        · rw [if_neg c2, decide_eq_false c2]
          simp
      · rw [if_neg c1, decide_eq_false c1]
        simp
    · have hb' : (if takesB l x b i = true then (i : Int) else b) = -1 ∨ ∃ m : Nat, m < l.length ∧ (if takesB l x b i = true then (i : Int) else b) = (m : Int) := by
        by_cases hc : takesB l x b i = true
        · rw [if_pos hc]; exact .inr ⟨i, hi0, rfl⟩
        · rw [if_neg hc]; exact hb
      have := covered_l1 l hn t a x lo hi ht ha r d (i + 1) _ e1 hi0 hb' hr
      refine Ev.step (fun k => ?_) this
      simp only [span_covered.j2]
      rw [wrap_succ hi0 (by omega)]
      by_cases hc : takesB l x b i = true
      · rw [if_pos hc, if_pos hc]
      · rw [if_neg hc, if_neg hc]
theorem best_pos {l : List S32} {x : Int} (h : ¬ best l x < 0) : x < (l.getD (best l x).toNat z32).f1 ∧ (best l x).toNat < l.length := by
  rcases best_at l x with ⟨e, _⟩ | ⟨m, hm, e, hh, _⟩
  · omega
  · rw [e, Int.toNat_natCast]
    exact ⟨hh.2, hm⟩
theorem good_at {l : List S32} (hg : ∀ s ∈ l, -1099511627776 ≤ s.f0 ∧ s.f0 < s.f1 ∧ s.f1 ≤ 1099511627776) {i : Nat} (hi : i < l.length) : -1099511627776 ≤ (l.getD i z32).f0 ∧ (l.getD i z32).f0 < (l.getD i z32).f1 ∧ (l.getD i z32).f1 ≤ 1099511627776 := by
  refine hg _ ?_
  rw [List.getD_eq_getElem?_getD, List.getElem?_eq_getElem hi]
  exact List.getElem_mem hi
theorem covered_l0 (l : List S32) (hn : l.length ≤ 1000) (hg : ∀ s ∈ l, -1099511627776 ≤ s.f0 ∧ s.f0 < s.f1 ∧ s.f1 ≤ 1099511627776) (lo hi : Int) (hhi : hi ≤ 1099511627776) : ∀ (d : Nat) (x : Int) (t a : List Int), (hi - x).toNat ≤ d → -1099511627776 ≤ x → x ≤ 1099511627776 → (t.length : Int) ≤ x + 1099511627776 → (a.length : Int) ≤ x + 1099511627776 →
    Ev (fun k => span_covered.l0 k l t a x lo hi) (cov l hi d x t a)
  | 0, x, t, a, h, _, _, _, _ => Ev.step (f := fun _ => some (t, a, 0)) (fun k => by simp only [span_covered.l0]; rw [if_neg (by omega)]) (Ev.now _)
  | d + 1, x, t, a, h, h1, h2, h3, h4 => by
    rw [cov]
    by_cases hx : x < hi
    · rw [if_pos hx]
      refine Ev.step (f := fun k => span_covered.l1 k l t a x (-1) l (l.length : Int) ((0 : Nat) : Int) lo hi) (fun k => by simp only [span_covered.l0]; rw [if_pos hx]; rfl) ?_
      refine covered_l1 l hn t a x lo hi (by omega) (by omega) _ _ 0 (-1) rfl (by omega) (.inl rfl) ?_
      intro z hz
      change best l x = z at hz
      subst hz
      by_cases hb : best l x < 0
      · simp only [if_pos hb]
        exact Ev.now _
      · simp only [if_neg hb]
        obtain ⟨p1, p2⟩ := best_pos hb
        have := good_at hg p2
        exact covered_l0 l hn hg lo hi hhi d _ _ _ (by omega) (by omega) (by omega) (by rw [List.length_append, List.length_singleton]; omega) (by rw [List.length_append, List.length_singleton]; omega)
    · rw [if_neg hx]
      exact Ev.step (f := fun _ => some (t, a, 0)) (fun k => by simp only [span_covered.l0]; rw [if_neg hx]) (Ev.now _)
def covR (g : S32) (l : List S32) : List Int × List Int × Int :=
  if goodS g = true then (if listR l = 0 then cov l g.f1 (g.f1 - g.f0).toNat g.f0 [] [] else ([], [], listR l)) else ([], [], 2)
theorem covered_ev (g : S32) (l : List S32) : Ev (fun k => span_covered.f k g.f0 g.f1 l) (covR g l) := by
  unfold span_covered.f covR
  rw [goodS_f]
  simp only [Option.bind_some]
  by_cases hg : goodS g = true
  · simp only [if_pos hg, listed_f, Option.bind_some]
    by_cases hl : listR l = 0
    · simp only [if_pos hl]
      obtain ⟨h1, h2⟩ := listR_good hl
      have hg' := (goodS_iff g).1 hg
      exact covered_l0 l (by omega) h2 _ _ hg'.2.2 _ _ _ _ (Nat.le_refl _) hg'.1 (by omega) (by simp; omega) (by simp; omega)
    · simp only [if_neg hl]
      exact Ev.now _
  · simp only [if_neg hg]
    exact Ev.now _
theorem cover_ev (g : S32) (l : List S32) : Ev (fun k => span_Cover.f k g.f0 g.f1 l) ((covR g l).1, (covR g l).2.2) := by
  unfold span_Cover.f
  exact Ev.bind (covered_ev g l) (Ev.now _)
theorem apart_ev (g : S32) (l : List S32) : Ev (fun k => span_Apart.f k g.f0 g.f1 l) ((covR g l).2.1, (covR g l).2.2) := by
  unfold span_Apart.f
  exact Ev.bind (covered_ev g l) (Ev.now _)
end Go.Proofs.Ytningpmoojnomaa.Pr
end
section
namespace Go.Proofs.Ytningpmoojnomaa.Pr
open Go.RowKit Go.Proofs.YtningpmoojnomaaW.PrintWords Go.Proofs.YtningpmoojnomaaW.PrintLast Go.Proofs.YtningpmoojnomaaW.PrintMore
set_option linter.unusedVariables false
set_option linter.unusedSimpArgs false
def picked (p : List Bool) (j : Nat) : Prop := p.length = 0 ∨ p.getD j false = true
instance (p : List Bool) (j : Nat) : Decidable (picked p j) := inferInstanceAs (Decidable (_ ∨ _))
instance (l : List S32) (x : Int) (j : Nat) : Decidable (holds l x j) := inferInstanceAs (Decidable (_ ∧ _))
def passF (l : List S32) (p : List Bool) : Nat → Nat → Int → Bool → Int × Bool
  | 0, _, x, m => (x, m)
  | d + 1, i, x, m => if picked p i ∧ holds l x i then passF l p d (i + 1) (l.getD i z32).f1 true else passF l p d (i + 1) x m
theorem passF_spec (l : List S32) (p : List Bool) : ∀ (d i : Nat) (x : Int) (m : Bool), x ≤ (passF l p d i x m).1 ∧ (∀ y, x ≤ y → y < (passF l p d i x m).1 → ∃ j, i ≤ j ∧ j < i + d ∧ picked p j ∧ holds l y j) ∧
    ((passF l p d i x m).2 = true → m = true ∨ x < (passF l p d i x m).1) ∧ ((passF l p d i x m).2 = false → m = false ∧ (passF l p d i x m).1 = x ∧ ∀ j, i ≤ j → j < i + d → picked p j → ¬ holds l x j)
  | 0, i, x, m => ⟨Int.le_refl _, fun y h1 h2 => by simp only [passF] at h2; omega, fun h => .inl h, fun h => ⟨h, rfl, fun j h1 h2 => by omega⟩⟩
  | d + 1, i, x, m => by
    rw [passF]
    by_cases hc : picked p i ∧ holds l x i
    · rw [if_pos hc]
      obtain ⟨h1, h2, h3, h4⟩ := passF_spec l p d (i + 1) (l.getD i z32).f1 true
      have hx := hc.2.2
      have hx0 := hc.2.1
      refine ⟨by omega, fun y y1 y2 => ?_, fun h => .inr (by omega), fun h => ?_⟩
      · by_cases hy : y < (l.getD i z32).f1
        · exact ⟨i, Nat.le_refl _, by omega, hc.1, by omega, hy⟩
        · obtain ⟨j, j1, j2, j3⟩ := h2 y (by omega) y2
          exact ⟨j, by omega, by omega, j3⟩
      · exact absurd (h4 h).1 (by simp)
    · rw [if_neg hc]
      obtain ⟨h1, h2, h3, h4⟩ := passF_spec l p d (i + 1) x m
      refine ⟨h1, fun y y1 y2 => ?_, h3, fun h => ?_⟩
      · obtain ⟨j, j1, j2, j3⟩ := h2 y y1 y2
        exact ⟨j, by omega, by omega, j3⟩
      · obtain ⟨g1, g2, g3⟩ := h4 h
        refine ⟨g1, g2, fun j j1 j2 hp hh => ?_⟩
        rcases Nat.lt_or_ge i j with hj | hj
        · exact g3 j (by omega) (by omega) hp hh
        · obtain rfl : i = j := by omega
          exact hc ⟨hp, hh⟩
theorem covers_l1 (l : List S32) (p : List Bool) (hn : l.length ≤ 1000) (hp : p.length = 0 ∨ p.length = l.length) (lo hi : Int) (r : Bool) : ∀ (d i : Nat) (x : Int) (m : Bool), l.length - i = d →
    (∀ z, passF l p d i x m = z → Ev (fun k => kimberlitelaw01_covers.l0 k l p z.1 z.2 lo hi) r) → Ev (fun k => kimberlitelaw01_covers.l1 k l p x m (i : Int) lo hi) r
  | 0, i, x, m, h, hr => Ev.step (fun k => by simp only [kimberlitelaw01_covers.l1]; rw [if_neg (by omega)]) (hr (x, m) rfl)
  | d + 1, i, x, m, h, hr => by
    have hi0 : i < l.length := by omega
    have e1 : l.length - (i + 1) = d := by omega
    refine Ev.step (f := fun k => kimberlitelaw01_covers.j3 k l p x m (i : Int) (decide (picked p i ∧ holds l x i)) lo hi) (fun k => ?_) ?_
    · simp only [kimberlitelaw01_covers.l1]
      rw [if_pos (by omega), rd_nat]
      by_cases h0 : p.length = 0
      · have hpk : picked p i := .inl h0
        rw [if_pos (by omega), if_pos (by omega)]
        by_cases c1 : (l.getD i z32).f0 ≤ x
        · rw [if_pos c1]
          congr 1
          unfold holds
          simp only [hpk, true_and, c1]
        · rw [if_neg c1]
          congr 1
          exact (decide_eq_false (fun hh => c1 hh.2.1)).symm
      · rw [if_neg (by omega), if_pos (by omega), if_pos (by omega)]
        have er : rdOf false p (i : Int) = p.getD i false := by unfold rdOf; rw [Int.toNat_natCast]
        rw [er]
        by_cases hb : p.getD i false = true
        · have hpk : picked p i := .inr hb
          rw [if_pos hb]
          by_cases c1 : (l.getD i z32).f0 ≤ x
          · rw [if_pos c1]
            congr 1
            unfold holds
            simp only [hpk, true_and, c1]
          · rw [if_neg c1]
            congr 1
            exact (decide_eq_false (fun hh => c1 hh.2.1)).symm
        · have hpk : ¬ picked p i := fun hc => hc.elim h0 hb
          rw [if_neg hb]
          congr 1
          simp [hpk]
    · by_cases hc : picked p i ∧ holds l x i
      · have := covers_l1 l p hn hp lo hi r d (i + 1) (l.getD i z32).f1 true e1 (fun z hz => hr z (by rw [passF, if_pos hc]; exact hz))
        refine Ev.step (fun k => ?_) this
        simp only [kimberlitelaw01_covers.j3]
        rw [if_pos (decide_eq_true hc), if_pos (by omega), if_pos (by omega), rd_nat, wrap_succ hi0 (by omega)]
      · have := covers_l1 l p hn hp lo hi r d (i + 1) x m e1 (fun z hz => hr z (by rw [passF, if_neg hc]; exact hz))
        refine Ev.step (fun k => ?_) this
        simp only [kimberlitelaw01_covers.j3]
        rw [if_neg (by simpa using hc), wrap_succ hi0 (by omega)]
/-- What covers answers of what is known of the numbers below x. -/
abbrev CovSaid (l : List S32) (p : List Bool) (lo hi : Int) (b : Bool) : Prop :=
  (b = true → ∀ y, lo ≤ y → y < hi → ∃ j, j < l.length ∧ picked p j ∧ holds l y j) ∧ (b = false → ∃ y, lo ≤ y ∧ y < hi ∧ ∀ j, j < l.length → picked p j → ¬ holds l y j)
theorem covers_l0 (l : List S32) (p : List Bool) (hn : l.length ≤ 1000) (hp : p.length = 0 ∨ p.length = l.length) (lo hi : Int) : ∀ (d : Nat) (x : Int), (hi - x).toNat ≤ d → lo ≤ x → (∀ y, lo ≤ y → y < x → ∃ j, j < l.length ∧ picked p j ∧ holds l y j) →
    ∃ b, Ev (fun k => kimberlitelaw01_covers.l0 k l p x true lo hi) b ∧ CovSaid l p lo hi b
  | d, x, h, hlo, hy => by
    by_cases hx : x < hi
    · obtain ⟨s1, s2, s3, s4⟩ := passF_spec l p l.length 0 x false
      match hz : passF l p l.length 0 x false with
      | (x', true) =>
        rw [hz] at s1 s2 s3 s4
        have hlt : x < x' := (s3 rfl).elim (fun h => by cases h) id
        match d, h with
        | 0, h => omega
        | d + 1, h =>
          obtain ⟨b, hb, hs⟩ := covers_l0 l p hn hp lo hi d x' (by omega) (by omega) (fun y y1 y2 => by
            by_cases hyx : y < x
            · exact hy y y1 hyx
            · obtain ⟨j, j1, j2, j3⟩ := s2 y (by omega) y2
              exact ⟨j, by omega, j3⟩)
          refine ⟨b, ?_, hs⟩
          refine Ev.step (f := fun k => kimberlitelaw01_covers.j1 k l p x (decide (x < hi)) lo hi) (fun k => by simp only [kimberlitelaw01_covers.l0]; rw [if_pos trivial]) ?_
          refine Ev.step (f := fun k => kimberlitelaw01_covers.l1 k l p x false ((0 : Nat) : Int) lo hi) (fun k => by simp only [kimberlitelaw01_covers.j1]; rw [if_pos (decide_eq_true hx)]; rfl) ?_
          refine covers_l1 l p hn hp lo hi b _ 0 x false rfl (fun z hz' => ?_)
          change passF l p l.length 0 x false = z at hz'
          rw [hz] at hz'
          subst hz'
          exact hb
      | (x', false) =>
        rw [hz] at s1 s2 s3 s4
        obtain ⟨_, e, hno⟩ := s4 rfl
        simp only at e
        subst e
        refine ⟨false, ?_, (⟨fun hc => (by cases hc), fun _ => ⟨x', hlo, hx, fun j hj hp' => hno j (by omega) (by omega) hp'⟩⟩ : (false = true → _) ∧ (false = false → _))⟩
        refine Ev.step (f := fun k => kimberlitelaw01_covers.j1 k l p x' (decide (x' < hi)) lo hi) (fun k => by simp only [kimberlitelaw01_covers.l0]; rw [if_pos trivial]) ?_
        refine Ev.step (f := fun k => kimberlitelaw01_covers.l1 k l p x' false ((0 : Nat) : Int) lo hi) (fun k => by simp only [kimberlitelaw01_covers.j1]; rw [if_pos (decide_eq_true hx)]; rfl) ?_
        refine covers_l1 l p hn hp lo hi false _ 0 x' false rfl (fun z hz' => ?_)
        change passF l p l.length 0 x' false = z at hz'
        rw [hz] at hz'
        subst hz'
        refine Ev.step (f := fun k => kimberlitelaw01_covers.j1 k l p x' false lo hi) (fun k => by simp only [kimberlitelaw01_covers.l0]; rw [if_neg (by simp)]) ?_
        exact Ev.step (f := fun _ => some false) (fun k => by simp only [kimberlitelaw01_covers.j1]; rw [if_neg (by simp)]; rw [decide_eq_false (by omega)]) (Ev.now _)
    · refine ⟨true, ?_, (⟨fun _ y y1 y2 => hy y y1 (by omega), fun hc => (by cases hc)⟩ : (true = true → _) ∧ (true = false → _))⟩
      refine Ev.step (f := fun k => kimberlitelaw01_covers.j1 k l p x (decide (x < hi)) lo hi) (fun k => by simp only [kimberlitelaw01_covers.l0]; rw [if_pos trivial]) ?_
      exact Ev.step (f := fun _ => some true) (fun k => by simp only [kimberlitelaw01_covers.j1]; rw [if_neg (by simpa using hx)]; rw [decide_eq_true (by omega)]) (Ev.now _)
theorem covers_ev (l : List S32) (p : List Bool) (hn : l.length ≤ 1000) (hp : p.length = 0 ∨ p.length = l.length) (lo hi : Int) : ∃ b, Ev (fun k => kimberlitelaw01_covers.f k lo hi l p) b ∧ CovSaid l p lo hi b :=
  covers_l0 l p hn hp lo hi _ lo (Nat.le_refl _) (Int.le_refl _) (fun y y1 y2 => by omega)
end Go.Proofs.Ytningpmoojnomaa.Pr
end
section
namespace Go.Proofs.Ytningpmoojnomaa.Pr
open Go.RowKit Go.Proofs.YtningpmoojnomaaW.PrintWords Go.Proofs.YtningpmoojnomaaW.PrintLast Go.Proofs.YtningpmoojnomaaW.PrintMore
attribute [local go_sem] max2_int min2_int max_two min_two max_three min_three max_four min_four   -- for this text's walks alone
set_option linter.unusedVariables false
set_option linter.unusedSimpArgs false
theorem eqA32 (d : Nat) (w : World) (x0 y0 : Int) (x1 y1 : Int) :
 (Op.equalIn (d + 2) 32 (.agg #[.int .i64 x0, .int .i64 x1]) (.agg #[.int .i64 y0, .int .i64 y1])).run Try.prog w = .ok (x0 == y0 && (x1 == y1)) w := by
 refine eqA_of Try.underlying32 (by kernel_rfl) ?_
 refine eqf_cons (by rfl) (by go_simp; rfl) (by go_simp; rfl) (by go_simp) ?_
 exact eqf_last (by rfl) (by go_simp; rfl) (by go_simp; rfl) (by go_simp)
end Go.Proofs.Ytningpmoojnomaa.Pr
end
section
namespace Go.Proofs.Ytningpmoojnomaa.Pr
open Go.RowKit Go.Proofs.YtningpmoojnomaaW.PrintWords Go.Proofs.YtningpmoojnomaaW.PrintLast Go.Proofs.YtningpmoojnomaaW.PrintMore
attribute [local go_sem] max2_int min2_int max_two min_two max_three min_three max_four min_four   -- for this text's walks alone
set_option linter.unusedVariables false
set_option linter.unusedSimpArgs false
attribute [local go_sem high] eqA32
def kimberlitelaw01_same.l0 : Nat → List (S32) → List (S32) → Int → Option (Bool)
 | 0, _, _, _ => none
 | k + 1, x0, x1, x5 => if x5 < (x0.length : Int) then (if 0 ≤ x5 then (if x5 < (x1.length : Int) then (if (!(((rd_T32 x0 x5).f0) == ((rd_T32 x1 x5).f0)) || (!(((rd_T32 x0 x5).f1) == ((rd_T32 x1 x5).f1)))) = true then (some false) else (kimberlitelaw01_same.l0 k x0 x1 (wrap64 (x5 + 1)))) else (none)) else (none)) else (some true)
def kimberlitelaw01_same.f (k : Nat) (l0 : List (S32)) (l1 : List (S32)) : Option (Bool) := if (l0.length : Int) = (l1.length : Int) then (kimberlitelaw01_same.l0 k l0 l1 0) else (some false)
theorem kimberlitelaw01_same.mono_l : ∀ k, (∀ y0 y1 y2, LeO (kimberlitelaw01_same.l0 k y0 y1 y2) (kimberlitelaw01_same.l0 (k + 1) y0 y1 y2))
 | 0 => fun _ _ _ r h => by simp [kimberlitelaw01_same.l0] at h
 | k + 1 => by
  have ih0 := kimberlitelaw01_same.mono_l k
  · intro y0 y1 y2
    unfold kimberlitelaw01_same.l0
    repeat' first
    | (with_reducible exact ih0 _ _ _)
    | (with_reducible exact LeO.refl _)
    | (with_reducible exact LeO.none _)
    | (with_reducible refine LeO.ite ?_ ?_)
    | (with_reducible refine LeO.bind ?_ (fun _ => ?_))
    | exact ih0 _ _ _
    | exact LeO.none _
    | refine LeO.ite ?_ ?_
    | refine LeO.bind ?_ (fun _ => ?_)
theorem kimberlitelaw01_same.mono : ∀ a0 a1 k, LeO (kimberlitelaw01_same.f k a0 a1) (kimberlitelaw01_same.f (k + 1) a0 a1) := by
 intro a0 a1 k
 have ih0 := kimberlitelaw01_same.mono_l k
 unfold kimberlitelaw01_same.f
 repeat' first
  | (with_reducible exact ih0 _ _ _)
  | (with_reducible exact LeO.refl _)
  | (with_reducible exact LeO.none _)
  | (with_reducible refine LeO.ite ?_ ?_)
  | (with_reducible refine LeO.bind ?_ (fun _ => ?_))
  | exact ih0 _ _ _
  | exact LeO.none _
  | refine LeO.ite ?_ ?_
  | refine LeO.bind ?_ (fun _ => ?_)
set_option maxHeartbeats 8000000 in
set_option maxRecDepth 100000 in
theorem kimberlitelaw01_same.calls (k : Nat) (A0 : Option Addr) (c0 : Nat) (l0 : List (S32)) (A1 : Option Addr) (c1 : Nat) (l1 : List (S32)) (r : Bool) (w : World) (hr0 : Kd.C k32 w A0 l0.length l0) (hc0 : l0.length ≤ c0) (hr1 : Kd.C k32 w A1 l1.length l1) (hc1 : l1.length ≤ c1) (h : kimberlitelaw01_same.f k l0 l1 = some r) :
 Calls Try.prog 20 #[.slice A0 l0.length c0, .slice A1 l1.length c1] w fun e w' => e = .returned (.bool r) ∧ Drawn0 w w' := by
 have hu32 := Try.underlying32
 have HR0 := Aside0.mk hr0
 have HC0 := Aside0.mk hc0
 clear hr0 hc0
 have HR1 := Aside0.mk hr1
 have HC1 := Aside0.mk hc1
 clear hr1 hc1
 have H : (if (l0.length : Int) = (l1.length : Int) then (kimberlitelaw01_same.l0 k l0 l1 0) else (some false)) = some r := h
 clear h
 by_cases c3 : (l0.length : Int) = (l1.length : Int)
 · rw [if_pos c3] at H
   have c3b0 : ((l0.length : Int) == (l1.length : Int)) = true := beq_iff_eq.mpr c3
   have c3b1 : ((l0.length : Int) != (l1.length : Int)) = false := bne_eq_false_iff_eq.mpr c3
   have c3b2 : (l0.length == l1.length) = true := by first | simpa using c3 | (simp at c3 ⊢; omega)
   clear c3
   have H' := Aside0.mk H
   clear H
   go_enter Try.func20, Try.ntmps20
   go_wp2
   repeat (go_quiet (fail); try go_wp2)
   go_loopg [5] k (fun kq v5 w' => ∃ (x5_1 : Int), v5 = .int .i64 x5_1 ∧ Aside0 (kimberlitelaw01_same.l0 kq l0 l1 x5_1 = some r) ∧ Aside0 (kq ≤ k) ∧ Drawn0 w w')
   case atStart => exact ⟨(0), (by first | rfl | (simp; done) | (simp [*]; done)), H', ⟨Nat.le_refl _⟩, by repeat (first | exact Drawn0.refl _ | apply Drawn0.step)⟩
   case round =>
    clear H'
    try clear c1
    try clear c2
    try clear p2
    try clear c3
    try clear c3b0
    try clear c3b1
    try clear c3b2
    obtain ⟨x5_1, rfl, HA, HK1, ⟨m1, rfl⟩⟩ := hrel
    cases gk with
    | zero => exact absurd HA.out (by simp [kimberlitelaw01_same.l0])
    | succ k1 =>
     have H := HA.out
     clear HA
     simp only [kimberlitelaw01_same.l0] at H
     by_cases c4 : x5_1 < (l0.length : Int)
     · rw [if_pos c4] at H
       have c4b0 : decide (x5_1 < (l0.length : Int)) = true := decide_eq_true c4
       clear c4
       by_cases c5 : 0 ≤ x5_1
       · rw [if_pos c5] at H
         have c5b0 : decide (0 ≤ x5_1) = true := decide_eq_true c5
         clear c5
         by_cases c6 : x5_1 < (l1.length : Int)
         · rw [if_pos c6] at H
           have c6b0 : decide (x5_1 < (l1.length : Int)) = true := decide_eq_true c6
           clear c6
           by_cases c7 : (!(((rd_T32 l0 x5_1).f0) == ((rd_T32 l1 x5_1).f0)) || (!(((rd_T32 l0 x5_1).f1) == ((rd_T32 l1 x5_1).f1)))) = true
           · rw [if_pos c7] at H
             have c7b0 : (!(((rd_T32 l0 x5_1).f0) == ((rd_T32 l1 x5_1).f0)) || (!(((rd_T32 l0 x5_1).f1) == ((rd_T32 l1 x5_1).f1)))) = true := c7
             clear c7
             obtain rfl := Option.some.inj H
             have p110 : 0 ≤ (x5_1 : Int) := of_decide_eq_true (by first | (with_reducible assumption) | assumption)
             have q110 : x5_1 < (l0.length : Int) := of_decide_eq_true (by first | (with_reducible assumption) | assumption)
             obtain ⟨ad110, e110, hx110_0, hx110_1⟩ := at_T32 HR0.out x5_1 p110 q110
             cases e110
             replace p110 := eq_true p110
             replace q110 := eq_true q110
             have p111 : 0 ≤ (x5_1 : Int) := of_decide_eq_true (by first | (with_reducible assumption) | assumption)
             have q111 : x5_1 < (l1.length : Int) := of_decide_eq_true (by first | (with_reducible assumption) | assumption)
             obtain ⟨ad111, e111, hx111_0, hx111_1⟩ := at_T32 HR1.out x5_1 p111 q111
             cases e111
             replace p111 := eq_true p111
             replace q111 := eq_true q111
             go_wp2
             repeat (go_quiet (fail); try go_wp2)
             go_ret
             exact ⟨by first | rfl | (simp; done) | (simp [*]; done), by repeat (first | exact Drawn0.refl _ | apply Drawn0.step)⟩
           · rw [if_neg c7] at H
             have c7b0 : (!(((rd_T32 l0 x5_1).f0) == ((rd_T32 l1 x5_1).f0)) || (!(((rd_T32 l0 x5_1).f1) == ((rd_T32 l1 x5_1).f1)))) = false := by simpa using c7
             clear c7
             have H' := Aside0.mk H
             clear H
             have p110 : 0 ≤ (x5_1 : Int) := of_decide_eq_true (by first | (with_reducible assumption) | assumption)
             have q110 : x5_1 < (l0.length : Int) := of_decide_eq_true (by first | (with_reducible assumption) | assumption)
             obtain ⟨ad110, e110, hx110_0, hx110_1⟩ := at_T32 HR0.out x5_1 p110 q110
             cases e110
             replace p110 := eq_true p110
             replace q110 := eq_true q110
             have p111 : 0 ≤ (x5_1 : Int) := of_decide_eq_true (by first | (with_reducible assumption) | assumption)
             have q111 : x5_1 < (l1.length : Int) := of_decide_eq_true (by first | (with_reducible assumption) | assumption)
             obtain ⟨ad111, e111, hx111_0, hx111_1⟩ := at_T32 HR1.out x5_1 p111 q111
             cases e111
             replace p111 := eq_true p111
             replace q111 := eq_true q111
             go_wp2
             repeat (go_quiet (fail); try go_wp2)
             go_roundg k1
             case measure => have := HK1.out; omega
             case rel => exact ⟨(wrap64 (x5_1 + 1)), (by first | rfl | (simp; done) | (simp [*]; done)), H', ⟨by have := HK1.out; omega⟩, by repeat (first | exact Drawn0.refl _ | apply Drawn0.step)⟩
         · rw [if_neg c6] at H
           exact absurd H (by simp)
       · rw [if_neg c5] at H
         exact absurd H (by simp)
     · rw [if_neg c4] at H
       have c4b0 : decide (x5_1 < (l0.length : Int)) = false := decide_eq_false c4
       clear c4
       obtain rfl := Option.some.inj H
       go_wp2
       repeat (go_quiet (fail); try go_wp2)
       go_ret
       exact ⟨by first | rfl | (simp; done) | (simp [*]; done), by repeat (first | exact Drawn0.refl _ | apply Drawn0.step)⟩
 · rw [if_neg c3] at H
   have c3b0 : ((l0.length : Int) == (l1.length : Int)) = false := beq_eq_false_iff_ne.mpr c3
   have c3b1 : ((l0.length : Int) != (l1.length : Int)) = true := bne_iff_ne.mpr c3
   have c3b2 : (l0.length == l1.length) = false := by first | simpa using c3 | (simp at c3 ⊢; omega)
   obtain rfl := Option.some.inj H
   go_enter Try.func20, Try.ntmps20
   go_wp2
   repeat (go_quiet (fail); try go_wp2)
   go_ret
   exact ⟨by first | rfl | (simp; done) | (simp [*]; done), by repeat (first | exact Drawn0.refl _ | apply Drawn0.step)⟩
def kimberlitelaw01_alike.l0 : Nat → List Int → List Int → Int → Option (Bool)
 | 0, _, _, _ => none
 | k + 1, x0, x1, x5 => if x5 < (x0.length : Int) then (if 0 ≤ x5 then (if x5 < (x1.length : Int) then (if (rd x0 x5) = (rd x1 x5) then (kimberlitelaw01_alike.l0 k x0 x1 (wrap64 (x5 + 1))) else (some false)) else (none)) else (none)) else (some true)
def kimberlitelaw01_alike.f (k : Nat) (l0 : List Int) (l1 : List Int) : Option (Bool) := if (l0.length : Int) = (l1.length : Int) then (kimberlitelaw01_alike.l0 k l0 l1 0) else (some false)
theorem kimberlitelaw01_alike.mono_l : ∀ k, (∀ y0 y1 y2, LeO (kimberlitelaw01_alike.l0 k y0 y1 y2) (kimberlitelaw01_alike.l0 (k + 1) y0 y1 y2))
 | 0 => fun _ _ _ r h => by simp [kimberlitelaw01_alike.l0] at h
 | k + 1 => by
  have ih0 := kimberlitelaw01_alike.mono_l k
  · intro y0 y1 y2
    unfold kimberlitelaw01_alike.l0
    repeat' first
    | (with_reducible exact ih0 _ _ _)
    | (with_reducible exact LeO.refl _)
    | (with_reducible exact LeO.none _)
    | (with_reducible refine LeO.ite ?_ ?_)
    | (with_reducible refine LeO.bind ?_ (fun _ => ?_))
    | exact ih0 _ _ _
    | exact LeO.none _
    | refine LeO.ite ?_ ?_
    | refine LeO.bind ?_ (fun _ => ?_)
theorem kimberlitelaw01_alike.mono : ∀ a0 a1 k, LeO (kimberlitelaw01_alike.f k a0 a1) (kimberlitelaw01_alike.f (k + 1) a0 a1) := by
 intro a0 a1 k
 have ih0 := kimberlitelaw01_alike.mono_l k
 unfold kimberlitelaw01_alike.f
 repeat' first
  | (with_reducible exact ih0 _ _ _)
  | (with_reducible exact LeO.refl _)
  | (with_reducible exact LeO.none _)
  | (with_reducible refine LeO.ite ?_ ?_)
  | (with_reducible refine LeO.bind ?_ (fun _ => ?_))
  | exact ih0 _ _ _
  | exact LeO.none _
  | refine LeO.ite ?_ ?_
  | refine LeO.bind ?_ (fun _ => ?_)
set_option maxHeartbeats 8000000 in
set_option maxRecDepth 100000 in
theorem kimberlitelaw01_alike.calls (k : Nat) (A0 : Option Addr) (c0 : Nat) (l0 : List Int) (A1 : Option Addr) (c1 : Nat) (l1 : List Int) (r : Bool) (w : World) (hr0 : Kd.C (Kd.int .i64) w A0 l0.length l0) (hc0 : l0.length ≤ c0) (hr1 : Kd.C (Kd.int .i64) w A1 l1.length l1) (hc1 : l1.length ≤ c1) (h : kimberlitelaw01_alike.f k l0 l1 = some r) :
 Calls Try.prog 28 #[.slice A0 l0.length c0, .slice A1 l1.length c1] w fun e w' => e = .returned (.bool r) ∧ Drawn0 w w' := by
 have HR0 := Aside0.mk hr0
 have HC0 := Aside0.mk hc0
 clear hr0 hc0
 have HR1 := Aside0.mk hr1
 have HC1 := Aside0.mk hc1
 clear hr1 hc1
 have H : (if (l0.length : Int) = (l1.length : Int) then (kimberlitelaw01_alike.l0 k l0 l1 0) else (some false)) = some r := h
 clear h
 by_cases c3 : (l0.length : Int) = (l1.length : Int)
 · rw [if_pos c3] at H
   have c3b0 : ((l0.length : Int) == (l1.length : Int)) = true := beq_iff_eq.mpr c3
   have c3b1 : ((l0.length : Int) != (l1.length : Int)) = false := bne_eq_false_iff_eq.mpr c3
   have c3b2 : (l0.length == l1.length) = true := by first | simpa using c3 | (simp at c3 ⊢; omega)
   clear c3
   have H' := Aside0.mk H
   clear H
   go_enter Try.func28, Try.ntmps28
   go_wp2
   repeat (go_quiet (fail); try go_wp2)
   go_loopg [5] k (fun kq v5 w' => ∃ (x5_1 : Int), v5 = .int .i64 x5_1 ∧ Aside0 (kimberlitelaw01_alike.l0 kq l0 l1 x5_1 = some r) ∧ Aside0 (kq ≤ k) ∧ Drawn0 w w')
   case atStart => exact ⟨(0), (by first | rfl | (simp; done) | (simp [*]; done)), H', ⟨Nat.le_refl _⟩, by repeat (first | exact Drawn0.refl _ | apply Drawn0.step)⟩
   case round =>
    clear H'
    try clear c1
    try clear c2
    try clear p2
    try clear c3
    try clear c3b0
    try clear c3b1
    try clear c3b2
    obtain ⟨x5_1, rfl, HA, HK1, ⟨m1, rfl⟩⟩ := hrel
    cases gk with
    | zero => exact absurd HA.out (by simp [kimberlitelaw01_alike.l0])
    | succ k1 =>
     have H := HA.out
     clear HA
     simp only [kimberlitelaw01_alike.l0] at H
     by_cases c4 : x5_1 < (l0.length : Int)
     · rw [if_pos c4] at H
       have c4b0 : decide (x5_1 < (l0.length : Int)) = true := decide_eq_true c4
       clear c4
       by_cases c5 : 0 ≤ x5_1
       · rw [if_pos c5] at H
         have c5b0 : decide (0 ≤ x5_1) = true := decide_eq_true c5
         clear c5
         by_cases c6 : x5_1 < (l1.length : Int)
         · rw [if_pos c6] at H
           have c6b0 : decide (x5_1 < (l1.length : Int)) = true := decide_eq_true c6
           clear c6
           by_cases c7 : (rd l0 x5_1) = (rd l1 x5_1)
           · rw [if_pos c7] at H
             have c7b0 : ((rd l0 x5_1) == (rd l1 x5_1)) = true := beq_iff_eq.mpr c7
             have c7b1 : ((rd l0 x5_1) != (rd l1 x5_1)) = false := bne_eq_false_iff_eq.mpr c7
             clear c7
             have H' := Aside0.mk H
             clear H
             have p112 : 0 ≤ (x5_1 : Int) := of_decide_eq_true (by first | (with_reducible assumption) | assumption)
             have q112 : x5_1 < (l0.length : Int) := of_decide_eq_true (by first | (with_reducible assumption) | assumption)
             obtain ⟨ad112, e112, hx112_0⟩ := Kd.at_int HR0.out x5_1 p112 q112
             cases e112
             replace p112 := eq_true p112
             replace q112 := eq_true q112
             have p113 : 0 ≤ (x5_1 : Int) := of_decide_eq_true (by first | (with_reducible assumption) | assumption)
             have q113 : x5_1 < (l1.length : Int) := of_decide_eq_true (by first | (with_reducible assumption) | assumption)
             obtain ⟨ad113, e113, hx113_0⟩ := Kd.at_int HR1.out x5_1 p113 q113
             cases e113
             replace p113 := eq_true p113
             replace q113 := eq_true q113
             go_wp2
             repeat (go_quiet (fail); try go_wp2)
             go_roundg k1
             case measure => have := HK1.out; omega
             case rel => exact ⟨(wrap64 (x5_1 + 1)), (by first | rfl | (simp; done) | (simp [*]; done)), H', ⟨by have := HK1.out; omega⟩, by repeat (first | exact Drawn0.refl _ | apply Drawn0.step)⟩
           · rw [if_neg c7] at H
             have c7b0 : ((rd l0 x5_1) == (rd l1 x5_1)) = false := beq_eq_false_iff_ne.mpr c7
             have c7b1 : ((rd l0 x5_1) != (rd l1 x5_1)) = true := bne_iff_ne.mpr c7
             obtain rfl := Option.some.inj H
             have p112 : 0 ≤ (x5_1 : Int) := of_decide_eq_true (by first | (with_reducible assumption) | assumption)
             have q112 : x5_1 < (l0.length : Int) := of_decide_eq_true (by first | (with_reducible assumption) | assumption)
             obtain ⟨ad112, e112, hx112_0⟩ := Kd.at_int HR0.out x5_1 p112 q112
             cases e112
             replace p112 := eq_true p112
             replace q112 := eq_true q112
             have p113 : 0 ≤ (x5_1 : Int) := of_decide_eq_true (by first | (with_reducible assumption) | assumption)
             have q113 : x5_1 < (l1.length : Int) := of_decide_eq_true (by first | (with_reducible assumption) | assumption)
             obtain ⟨ad113, e113, hx113_0⟩ := Kd.at_int HR1.out x5_1 p113 q113
             cases e113
             replace p113 := eq_true p113
             replace q113 := eq_true q113
             go_wp2
             repeat (go_quiet (fail); try go_wp2)
             go_ret
             exact ⟨by first | rfl | (simp; done) | (simp [*]; done), by repeat (first | exact Drawn0.refl _ | apply Drawn0.step)⟩
         · rw [if_neg c6] at H
           exact absurd H (by simp)
       · rw [if_neg c5] at H
         exact absurd H (by simp)
     · rw [if_neg c4] at H
       have c4b0 : decide (x5_1 < (l0.length : Int)) = false := decide_eq_false c4
       clear c4
       obtain rfl := Option.some.inj H
       go_wp2
       repeat (go_quiet (fail); try go_wp2)
       go_ret
       exact ⟨by first | rfl | (simp; done) | (simp [*]; done), by repeat (first | exact Drawn0.refl _ | apply Drawn0.step)⟩
 · rw [if_neg c3] at H
   have c3b0 : ((l0.length : Int) == (l1.length : Int)) = false := beq_eq_false_iff_ne.mpr c3
   have c3b1 : ((l0.length : Int) != (l1.length : Int)) = true := bne_iff_ne.mpr c3
   have c3b2 : (l0.length == l1.length) = false := by first | simpa using c3 | (simp at c3 ⊢; omega)
   obtain rfl := Option.some.inj H
   go_enter Try.func28, Try.ntmps28
   go_wp2
   repeat (go_quiet (fail); try go_wp2)
   go_ret
   exact ⟨by first | rfl | (simp; done) | (simp [*]; done), by repeat (first | exact Drawn0.refl _ | apply Drawn0.step)⟩
end Go.Proofs.Ytningpmoojnomaa.Pr
end
