/- What the proof of the law needs, trimmed and merged by wip/pack.py out of the texts YtningpmoojnomaaPrx15, YtningpmoojnomaaExtHas, YtningpmoojnomaaMath, YtningpmoojnomaaSets, YtningpmoojnomaaSetm, YtningpmoojnomaaPie, YtningpmoojnomaaRowI. No condition. -/
import Derived.Lib.SlicesCompact
import Derived.Test.YtningpmoojnomaaKSpanTwo0
import Derived.Test.YtningpmoojnomaaKSpanTwo1
import Derived.Test.YtningpmoojnomaaKSpanTwo2
import Derived.Test.YtningpmoojnomaaKSpanTwo3
import Derived.Test.YtningpmoojnomaaKSpanTwo4
import Derived.Test.YtningpmoojnomaaKSpanTwo5
import Derived.Test.YtningpmoojnomaaKSpanTwo6
section
namespace Go.Proofs.Ytningpmoojnomaa.Pr
open Go.RowKit Go.Proofs.YtningpmoojnomaaW.PrintWords Go.Proofs.YtningpmoojnomaaW.PrintLast Go.Proofs.YtningpmoojnomaaW.PrintMore
attribute [local go_sem] max2_int min2_int max_two min_two max_three min_three max_four min_four   -- for this text's walks alone
set_option linter.unusedVariables false
set_option linter.unusedSimpArgs false
def kimberliteref01_Two.j0 : Nat → Int → List (S32) → List (S32) → Bool → Option ((List (S32)) × Int)
 | 0, _, _, _, _ => none
 | k + 1, x0, x1, x2, x16 => if x16 = true then (some (([] : List (S32)), 2)) else ((kimberliteref01_Made.f k x0 x1 x2).bind fun t219 => (if (t219.length : Int) > 128 then (some (([] : List (S32)), 8)) else (some (t219, 0))))
def kimberliteref01_Two.f (k : Nat) (a0 : Int) (l1 : List (S32)) (l2 : List (S32)) : Option ((List (S32)) × Int) := (kimberliteref01_Valid.f k l1).bind fun t217 => (if t217 = true then ((kimberliteref01_Valid.f k l2).bind fun t218 => (kimberliteref01_Two.j0 k a0 l1 l2 (!t218))) else (kimberliteref01_Two.j0 k a0 l1 l2 true))
theorem kimberliteref01_Two.mono_l : ∀ k, (∀ y0 y1 y2 y3, LeO (kimberliteref01_Two.j0 k y0 y1 y2 y3) (kimberliteref01_Two.j0 (k + 1) y0 y1 y2 y3))
 | 0 => fun _ _ _ _ r h => by simp [kimberliteref01_Two.j0] at h
 | k + 1 => by
  have ih0 := kimberliteref01_Two.mono_l k
  · intro y0 y1 y2 y3
    unfold kimberliteref01_Two.j0
    repeat' first
    | (with_reducible exact ih0 _ _ _ _)
    | (with_reducible exact kimberliteref01_Made.mono _ _ _ _)
    | (with_reducible exact kimberliteref01_Valid.mono _ _)
    | (with_reducible exact LeO.refl _)
    | (with_reducible exact LeO.none _)
    | (with_reducible refine LeO.ite ?_ ?_)
    | (with_reducible refine LeO.bind ?_ (fun _ => ?_))
    | exact ih0 _ _ _ _
    | exact kimberliteref01_Made.mono _ _ _ _
    | exact kimberliteref01_Valid.mono _ _
    | exact LeO.none _
    | refine LeO.ite ?_ ?_
    | refine LeO.bind ?_ (fun _ => ?_)
theorem kimberliteref01_Two.mono : ∀ a0 a1 a2 k, LeO (kimberliteref01_Two.f k a0 a1 a2) (kimberliteref01_Two.f (k + 1) a0 a1 a2) := by
 intro a0 a1 a2 k
 have ih0 := kimberliteref01_Two.mono_l k
 unfold kimberliteref01_Two.f
 repeat' first
  | (with_reducible exact ih0 _ _ _ _)
  | (with_reducible exact kimberliteref01_Made.mono _ _ _ _)
  | (with_reducible exact kimberliteref01_Valid.mono _ _)
  | (with_reducible exact LeO.refl _)
  | (with_reducible exact LeO.none _)
  | (with_reducible refine LeO.ite ?_ ?_)
  | (with_reducible refine LeO.bind ?_ (fun _ => ?_))
  | exact ih0 _ _ _ _
  | exact kimberliteref01_Made.mono _ _ _ _
  | exact kimberliteref01_Valid.mono _ _
  | exact LeO.none _
  | refine LeO.ite ?_ ?_
  | refine LeO.bind ?_ (fun _ => ?_)
set_option maxHeartbeats 8000000 in
set_option maxRecDepth 100000 in
theorem kimberliteref01_Two.calls (k : Nat) (a0 : Int) (A1 : Option Addr) (c1 : Nat) (l1 : List (S32)) (A2 : Option Addr) (c2 : Nat) (l2 : List (S32)) (r1 : List (S32)) (r2 : Int) (w : World) (hr1 : Kd.C k32 w A1 l1.length l1) (hc1 : l1.length ≤ c1) (hr2 : Kd.C k32 w A2 l2.length l2) (hc2 : l2.length ≤ c2) (h : kimberliteref01_Two.f k a0 l1 l2 = some (r1, r2)) :
 Calls Try.prog 51 #[.int .i64 a0, .slice A1 l1.length c1, .slice A2 l2.length c2] w fun e w' => ∃ v0_ : Value, e = .returned (.tuple #[v0_, .int .i64 r2]) ∧ Kd.R k32 32 w' w.heap.size (fun _ => True) v0_ r1 ∧ Below w.heap.size w w' := by
 have HR1 := Aside0.mk hr1
 have HC1 := Aside0.mk hc1
 clear hr1 hc1
 have HR2 := Aside0.mk hr2
 have HC2 := Aside0.mk hc2
 clear hr2 hc2
 have HB := Aside0.mk (Below.refl w.heap.size w)
 have H : ((kimberliteref01_Valid.f k l1).bind fun t217 => (if t217 = true then ((kimberliteref01_Valid.f k l2).bind fun t218 => (kimberliteref01_Two.j0 k a0 l1 l2 (!t218))) else (kimberliteref01_Two.j0 k a0 l1 l2 true))) = some (r1, r2) := h
 clear h
 have HC4 := Aside0.mk H
 clear H
 go_enter Try.func51, Try.ntmps51
 go_upto_region 1 with (fail)
 go_cut [16] (fun v16 wc => ∃ (kq : Nat) (x16_3 : Bool), v16 = .bool x16_3 ∧ Aside0 (kimberliteref01_Two.j0 kq a0 l1 l2 x16_3 = some (r1, r2)) ∧ Aside0 (kq ≤ k) ∧ Aside0 (Below w.heap.size w wc))
 case first =>
  have H := HC4.out
  clear HC4
  replace H := Option.bind_eq_some_iff.mp H
  obtain ⟨t217, A50, H⟩ := H
  replace H : (if t217 = true then ((kimberliteref01_Valid.f k l2).bind fun t218 => (kimberliteref01_Two.j0 k a0 l1 l2 (!t218))) else (kimberliteref01_Two.j0 k a0 l1 l2 true)) = some (r1, r2) := H
  have A5 := Aside0.mk A50
  clear A50
  by_cases c6 : t217 = true
  · subst c6
    have H1 : ((kimberliteref01_Valid.f k l2).bind fun t218 => (kimberliteref01_Two.j0 k a0 l1 l2 (!t218))) = some (r1, r2) := by rw [if_pos rfl] at H; exact H
    clear H
    have H := H1
    clear H1
    replace H := Option.bind_eq_some_iff.mp H
    obtain ⟨t218, A70, H⟩ := H
    replace H : (kimberliteref01_Two.j0 k a0 l1 l2 (!t218)) = some (r1, r2) := H
    have A7 := Aside0.mk A70
    clear A70
    have H' := Aside0.mk H
    clear H
    go_wp2_with (first | ((with_reducible refine gate_callee (f := 24) rfl ?_); refine goesL_ (some 10) rfl rfl Try.func24 (by kernel_rfl) rfl #[.slice A1 l1.length c1] rfl (by (try simp only [List.map_toArray, List.map_cons, List.map_nil]); first | done | rfl | (simp only [List.length_drop, List.length_take]; rfl)) ?_; (with_reducible refine (kimberliteref01_Valid.calls k _ _ l1 true _ ?side1 ?side2 A5.out).mono ?_); (case side1 => repeat (first | exact (Kd.C_below HR1.out HB.out) | (with_reducible refine Kd.C_alloc ?_ _) | (with_reducible refine Kd.C_drewN ?_ _) | (with_reducible refine Kd.C_drew ?_))); (case side2 => exact HC1.out); rintro e w8 ⟨rfl, hb⟩; refine ⟨_, rfl, ?_⟩; have n0_ := Aside0.mk (below_step (by repeat (first | (with_reducible first | exact HB.out | apply below_alloc | apply pw_below_drewN | apply below_drew1) | exact HB.out)) hb); clear HB; have HB := n0_; clear n0_; (try clear hb); (try clear hb2); (try clear hk); (try clear hi)) | (go_at_call 24; (with_reducible refine (kimberliteref01_Valid.calls k _ _ l2 t218 _ ?side1 ?side2 A7.out).mono ?_); (case side1 => repeat (first | exact (Kd.C_below HR2.out HB.out) | (with_reducible refine Kd.C_alloc ?_ _) | (with_reducible refine Kd.C_drewN ?_ _) | (with_reducible refine Kd.C_drew ?_))); (case side2 => exact HC2.out); rintro e w9 ⟨rfl, hb⟩; have n0_ := Aside0.mk (below_step (by repeat (first | (with_reducible first | exact HB.out | apply below_alloc | apply pw_below_drewN | apply below_drew1) | exact HB.out)) hb); clear HB; have HB := n0_; clear n0_; (try clear hb); (try clear hb2); (try clear hk); (try clear hi)))
    go_meet
    case rel => exact ⟨_, (!t218), (by first | rfl | (simp; done) | (simp [*]; done)), H', ⟨by first | omega | exact Nat.le_refl _⟩, ⟨by repeat (first | (with_reducible first | exact HB.out | apply below_alloc | apply pw_below_drewN | apply below_drew1) | exact HB.out)⟩⟩
  · replace c6 := Bool.eq_false_iff.mpr c6
    subst c6
    have H1 : (kimberliteref01_Two.j0 k a0 l1 l2 true) = some (r1, r2) := by rw [if_neg (show ¬ (false = true) by decide)] at H; exact H
    clear H
    have H := H1
    clear H1
    have H' := Aside0.mk H
    clear H
    go_wp2_with (first | ((with_reducible refine gate_callee (f := 24) rfl ?_); refine goesL_ (some 10) rfl rfl Try.func24 (by kernel_rfl) rfl #[.slice A1 l1.length c1] rfl (by (try simp only [List.map_toArray, List.map_cons, List.map_nil]); first | done | rfl | (simp only [List.length_drop, List.length_take]; rfl)) ?_; (with_reducible refine (kimberliteref01_Valid.calls k _ _ l1 false _ ?side1 ?side2 A5.out).mono ?_); (case side1 => repeat (first | exact (Kd.C_below HR1.out HB.out) | (with_reducible refine Kd.C_alloc ?_ _) | (with_reducible refine Kd.C_drewN ?_ _) | (with_reducible refine Kd.C_drew ?_))); (case side2 => exact HC1.out); rintro e w10 ⟨rfl, hb⟩; refine ⟨_, rfl, ?_⟩; have n0_ := Aside0.mk (below_step (by repeat (first | (with_reducible first | exact HB.out | apply below_alloc | apply pw_below_drewN | apply below_drew1) | exact HB.out)) hb); clear HB; have HB := n0_; clear n0_; (try clear hb); (try clear hb2); (try clear hk); (try clear hi)))
    go_meet
    case rel => exact ⟨_, (true), (by first | rfl | (simp; done) | (simp [*]; done)), H', ⟨by first | omega | exact Nat.le_refl _⟩, ⟨by repeat (first | (with_reducible first | exact HB.out | apply below_alloc | apply pw_below_drewN | apply below_drew1) | exact HB.out)⟩⟩
 case rest =>
  clear HC4
  try clear c1
  try clear c2
  try clear p2
  try clear c5
  try clear c6
  obtain ⟨kq, x16_3, rfl, HA, HJ3, HB⟩ := hcut
  cases kq with
  | zero => exact absurd HA.out (by simp [kimberliteref01_Two.j0])
  | succ kj3 =>
   have H := HA.out
   clear HA
   simp only [kimberliteref01_Two.j0] at H
   by_cases c11 : x16_3 = true
   · subst c11
     have H1 : (some (([] : List (S32)), 2)) = some (r1, r2) := by rw [if_pos rfl] at H; exact H
     clear H
     have H := H1
     clear H1
     simp only [Option.some.injEq, Prod.mk.injEq] at H
     obtain ⟨rfl, rfl⟩ := H
     go_wp2
     go_ret2
     exact ⟨_, by first | rfl | (simp [errW_none, errW_some] <;> rfl) | (simp [*, errW_none, errW_some] <;> rfl), by first | exact Kd.R_nil _ _ _ _ _ | exact Kd.N_nil _ _ _ _ _ | exact Kd.V_nil _ _ _ _ _ | exact Kd.Q_nil _ _ _ _ _ | exact Kd.S_nil _ _ _ _ _, by repeat (first | (with_reducible first | exact HB.out | apply below_alloc | apply pw_below_drewN | apply below_drew1) | exact HB.out)⟩
   · replace c11 := Bool.eq_false_iff.mpr c11
     subst c11
     have H1 : ((kimberliteref01_Made.f kj3 a0 l1 l2).bind fun t219 => (if (t219.length : Int) > 128 then (some (([] : List (S32)), 8)) else (some (t219, 0)))) = some (r1, r2) := by rw [if_neg (show ¬ (false = true) by decide)] at H; exact H
     clear H
     have H := H1
     clear H1
     replace H := Option.bind_eq_some_iff.mp H
     obtain ⟨t219, A120, H⟩ := H
     replace H : (if (t219.length : Int) > 128 then (some (([] : List (S32)), 8)) else (some (t219, 0))) = some (r1, r2) := H
     have A12 := Aside0.mk A120
     clear A120
     by_cases c13 : (t219.length : Int) > 128
     · rw [if_pos c13] at H
       have c13b0 : decide (128 < (t219.length : Int)) = true := decide_eq_true c13
       have c13b1 : decide (128 < t219.length) = true := decide_eq_true (by omega)
       clear c13
       simp only [Option.some.injEq, Prod.mk.injEq] at H
       obtain ⟨rfl, rfl⟩ := H
       go_wp2_with (first | ((with_reducible refine gate_callee (f := 63) rfl ?_); refine goesL_ (some 20) rfl rfl Try.func63 (by kernel_rfl) rfl #[.int .i64 a0, .slice A1 l1.length c1, .slice A2 l2.length c2] rfl (by (try simp only [List.map_toArray, List.map_cons, List.map_nil]); first | done | rfl | (simp only [List.length_drop, List.length_take]; rfl)) ?_; (with_reducible refine (kimberliteref01_Made.calls kj3 a0 _ _ l1 _ _ l2 t219 _ ?side1 ?side2 ?side3 ?side4 A12.out).mono ?_); (case side1 => repeat (first | exact (Kd.C_below HR1.out HB.out) | (with_reducible refine Kd.C_alloc ?_ _) | (with_reducible refine Kd.C_drewN ?_ _) | (with_reducible refine Kd.C_drew ?_))); (case side2 => exact HC1.out); (case side3 => repeat (first | exact (Kd.C_below HR2.out HB.out) | (with_reducible refine Kd.C_alloc ?_ _) | (with_reducible refine Kd.C_drewN ?_ _) | (with_reducible refine Kd.C_drew ?_))); (case side4 => exact HC2.out); rintro e w14 ⟨v220, rfl, ho0, hb⟩; refine ⟨_, rfl, ?_⟩; have n0_ := Aside0.mk (Kd.R_lower ho0 (below_size (by repeat (first | (with_reducible first | exact HB.out | apply below_alloc | apply pw_below_drewN | apply below_drew1) | exact HB.out)))); have n1_ := Aside0.mk (below_step (by repeat (first | (with_reducible first | exact HB.out | apply below_alloc | apply pw_below_drewN | apply below_drew1) | exact HB.out)) hb); clear HB; have HO221 := n0_; have HB := n1_; clear n0_ n1_; (try clear hb); (try clear hb2); (try clear hk); (try clear hi); (try clear ho0); obtain ⟨Ao15, co15, eo15⟩ := Kd.R_slice HO221.out; subst eo15))
       go_ret2
       exact ⟨_, by first | rfl | (simp [errW_none, errW_some] <;> rfl) | (simp [*, errW_none, errW_some] <;> rfl), by first | exact Kd.R_nil _ _ _ _ _ | exact Kd.N_nil _ _ _ _ _ | exact Kd.V_nil _ _ _ _ _ | exact Kd.Q_nil _ _ _ _ _ | exact Kd.S_nil _ _ _ _ _, by repeat (first | (with_reducible first | exact HB.out | apply below_alloc | apply pw_below_drewN | apply below_drew1) | exact HB.out)⟩
     · rw [if_neg c13] at H
       have c13b0 : decide (128 < (t219.length : Int)) = false := decide_eq_false c13
       have c13b1 : decide (128 < t219.length) = false := decide_eq_false (by omega)
       clear c13
       simp only [Option.some.injEq, Prod.mk.injEq] at H
       obtain ⟨rfl, rfl⟩ := H
       go_wp2_with (first | ((with_reducible refine gate_callee (f := 63) rfl ?_); refine goesL_ (some 20) rfl rfl Try.func63 (by kernel_rfl) rfl #[.int .i64 a0, .slice A1 l1.length c1, .slice A2 l2.length c2] rfl (by (try simp only [List.map_toArray, List.map_cons, List.map_nil]); first | done | rfl | (simp only [List.length_drop, List.length_take]; rfl)) ?_; (with_reducible refine (kimberliteref01_Made.calls kj3 a0 _ _ l1 _ _ l2 t219 _ ?side1 ?side2 ?side3 ?side4 A12.out).mono ?_); (case side1 => repeat (first | exact (Kd.C_below HR1.out HB.out) | (with_reducible refine Kd.C_alloc ?_ _) | (with_reducible refine Kd.C_drewN ?_ _) | (with_reducible refine Kd.C_drew ?_))); (case side2 => exact HC1.out); (case side3 => repeat (first | exact (Kd.C_below HR2.out HB.out) | (with_reducible refine Kd.C_alloc ?_ _) | (with_reducible refine Kd.C_drewN ?_ _) | (with_reducible refine Kd.C_drew ?_))); (case side4 => exact HC2.out); rintro e w16 ⟨v220, rfl, ho0, hb⟩; refine ⟨_, rfl, ?_⟩; have n0_ := Aside0.mk (Kd.R_lower ho0 (below_size (by repeat (first | (with_reducible first | exact HB.out | apply below_alloc | apply pw_below_drewN | apply below_drew1) | exact HB.out)))); have n1_ := Aside0.mk (below_step (by repeat (first | (with_reducible first | exact HB.out | apply below_alloc | apply pw_below_drewN | apply below_drew1) | exact HB.out)) hb); clear HB; have HO221 := n0_; have HB := n1_; clear n0_ n1_; (try clear hb); (try clear hb2); (try clear hk); (try clear hi); (try clear ho0); obtain ⟨Ao17, co17, eo17⟩ := Kd.R_slice HO221.out; subst eo17))
       go_ret2
       exact ⟨_, by first | rfl | (simp [errW_none, errW_some] <;> rfl) | (simp [*, errW_none, errW_some] <;> rfl), by (with_reducible repeat (first | apply Kd.R_alloc | apply Kd.R_drewN | apply Kd.R_drew)); exact HO221.out, by repeat (first | (with_reducible first | exact HB.out | apply below_alloc | apply pw_below_drewN | apply below_drew1) | exact HB.out)⟩
def kimberliteref01_Whole.f  : Option (Int × Int) := some ((-1099511627776), 1099511627776)
set_option maxHeartbeats 8000000 in
set_option maxRecDepth 100000 in
theorem kimberliteref01_Whole.calls  (r1 : Int) (r2 : Int) (w : World) (h : kimberliteref01_Whole.f  = some (r1, r2)) :
 Calls Try.prog 78 #[] w fun e w' => e = .returned (.agg #[.int .i64 r1, .int .i64 r2]) ∧ Below w.heap.size w w' := by
 have hu32 := Try.underlying32
 have HB := Aside0.mk (Below.refl w.heap.size w)
 have H : (some ((-1099511627776), 1099511627776)) = some (r1, r2) := h
 clear h
 simp only [Option.some.injEq, Prod.mk.injEq] at H
 obtain ⟨rfl, rfl⟩ := H
 go_enter Try.func78, Try.ntmps78
 go_wp2_with (first | ((with_reducible refine gate_dst (N := 0) rfl ?_); refine box_event ?hg (N := 0) ?hd (cs := #[.int .i64 0, .int .i64 0]) (t := 32) ?hr ?_; (case hd => rfl); (case hg => rfl); (case hr => first | (go_simp; done) | (go_simp; rfl)); intro gb222 hg w1 hbox hb; have n0_ := Aside0.mk (below_step (by repeat (first | (with_reducible first | exact HB.out | apply below_alloc | apply pw_below_drewN | apply below_drew1) | exact HB.out)) hb); have n1_ := Aside0.mk (hbox); have n2_ := Aside0.mk ((by rw [hg]; exact (below_size (by repeat (first | (with_reducible first | exact HB.out | apply below_alloc | apply pw_below_drewN | apply below_drew1) | exact HB.out))) : w.heap.size ≤ gb222)); have n3_ := Aside0.mk ((by rw [hg]; exact (below_size (by repeat (first | (with_reducible first | exact HB.out | apply below_alloc | apply pw_below_drewN | apply below_drew1) | exact HB.out))) : w.heap.size ≤ gb222)); clear HB; have HB := n0_; have BK222 := n1_; have GW222 := n2_; have GE222 := n3_; clear n0_ n1_ n2_ n3_; clear hb hbox hg; have hcz2_0 : w1.cell? ⟨gb222, 0, none⟩ = some (.int .i64 0) := (blk_cell BK222.out 0).trans rfl; have hcz2_1 : w1.cell? ⟨gb222, 1, none⟩ = some (.int .i64 0) := (blk_cell BK222.out 1).trans rfl; have hfz2_0 := blk_frozen BK222.out 0; have hfz2_1 := blk_frozen BK222.out 1))
 refine bodyPost_ret (results_cell_row rfl _ _ gb222 32 #[.int .i64 (-1099511627776), .int .i64 1099511627776] (0, 0) _ rfl (by (with_reducible repeat (first | refine blk_drewN ?_ _ | refine blk_drew ?_ | refine blk_alloc ?_ _)); refine blk_put (cs := #[.int .i64 (-1099511627776), .int .i64 0]) ?_ 1 _ rfl; (with_reducible repeat (first | refine blk_drewN ?_ _ | refine blk_drew ?_ | refine blk_alloc ?_ _)); refine blk_put (cs := #[.int .i64 0, .int .i64 0]) ?_ 0 _ rfl; (with_reducible repeat (first | refine blk_drewN ?_ _ | refine blk_drew ?_ | refine blk_alloc ?_ _)); exact BK222.out) Try.underlying32 rfl (by kernel_rfl)) rfl ?_
 exact ⟨by first | rfl | (simp [errW_none, errW_some] <;> rfl) | (simp [*, errW_none, errW_some] <;> rfl), by repeat (first | (with_reducible first | exact HB.out | apply below_alloc | apply pw_below_drewN | apply below_drew1 | refine below_set ?_ GE222.out) | exact HB.out)⟩
def kimberliteref01_Not.f (k : Nat) (l0 : List (S32)) : Option ((List (S32)) × Int) := (kimberliteref01_Whole.f).bind fun bt223 => ((kimberliteref01_Two.f k 2 (([(⟨bt223.1, bt223.2⟩ : S32)] : List (S32))) l0).bind fun bt228 => (some (bt228.1, bt228.2)))
theorem kimberliteref01_Not.mono : ∀ a0 k, LeO (kimberliteref01_Not.f k a0) (kimberliteref01_Not.f (k + 1) a0) := by
 intro a0 k
 unfold kimberliteref01_Not.f
 repeat' first
  | (with_reducible exact kimberliteref01_Two.mono _ _ _ _)
  | (with_reducible exact LeO.refl _)
  | (with_reducible exact LeO.none _)
  | (with_reducible refine LeO.ite ?_ ?_)
  | (with_reducible refine LeO.bind ?_ (fun _ => ?_))
  | exact kimberliteref01_Two.mono _ _ _ _
  | exact LeO.none _
  | refine LeO.ite ?_ ?_
  | refine LeO.bind ?_ (fun _ => ?_)
set_option maxHeartbeats 8000000 in
set_option maxRecDepth 100000 in
theorem kimberliteref01_Not.calls (k : Nat) (A0 : Option Addr) (c0 : Nat) (l0 : List (S32)) (r1 : List (S32)) (r2 : Int) (w : World) (hr0 : Kd.C k32 w A0 l0.length l0) (hc0 : l0.length ≤ c0) (h : kimberliteref01_Not.f k l0 = some (r1, r2)) :
 Calls Try.prog 55 #[.slice A0 l0.length c0] w fun e w' => ∃ v0_ : Value, e = .returned (.tuple #[v0_, .int .i64 r2]) ∧ Kd.R k32 32 w' w.heap.size (fun _ => True) v0_ r1 ∧ Below w.heap.size w w' := by
 have HR0 := Aside0.mk hr0
 have HC0 := Aside0.mk hc0
 clear hr0 hc0
 have HB := Aside0.mk (Below.refl w.heap.size w)
 have H : ((kimberliteref01_Whole.f).bind fun bt223 => ((kimberliteref01_Two.f k 2 (([(⟨bt223.1, bt223.2⟩ : S32)] : List (S32))) l0).bind fun bt228 => (some (bt228.1, bt228.2)))) = some (r1, r2) := h
 clear h
 replace H := Option.bind_eq_some_iff.mp H
 obtain ⟨⟨t223, t224⟩, A20, H⟩ := H
 replace H : ((kimberliteref01_Two.f k 2 (([(⟨t223, t224⟩ : S32)] : List (S32))) l0).bind fun bt228 => (some (bt228.1, bt228.2))) = some (r1, r2) := H
 have A2 := Aside0.mk A20
 clear A20
 obtain ⟨y225, hy225⟩ : ∃ y_ : List (S32), y_ = (([(⟨t223, t224⟩ : S32)] : List (S32))) := ⟨_, rfl⟩
 replace H : ((kimberliteref01_Two.f k 2 y225 l0).bind fun bt228 => (some (bt228.1, bt228.2))) = some (r1, r2) := by first | (rw [hy225]; with_reducible exact H) | (have H2_ := (Option.bind_some _ _).symm.trans H; rw [hy225]; with_reducible exact H2_) | (have H2_ := (Option.bind_some _ _).symm.trans H; with_reducible exact H2_) | with_reducible exact H | (rw [hy225]; exact H) | exact H
 have Ny225 := Aside0.mk hy225
 clear hy225
 replace H := Option.bind_eq_some_iff.mp H
 obtain ⟨⟨t228, t229⟩, A30, H⟩ := H
 replace H : (some (t228, t229)) = some (r1, r2) := H
 have A3 := Aside0.mk A30
 clear A30
 simp only [Option.some.injEq, Prod.mk.injEq] at H
 obtain ⟨rfl, rfl⟩ := H
 go_enter Try.func55, Try.ntmps55
 go_wp2_with (first | ((with_reducible refine gate_callee (f := 78) rfl ?_); refine goesL_ (some 4) rfl rfl Try.func78 (by kernel_rfl) rfl #[] rfl (by (try simp only [List.map_toArray, List.map_cons, List.map_nil]); first | done | rfl | (simp only [List.length_drop, List.length_take]; rfl)) ?_; (with_reducible refine (kimberliteref01_Whole.calls  t223 t224 _ A2.out).mono ?_); rintro e w4 ⟨rfl, hb⟩; refine ⟨_, rfl, ?_⟩; have n0_ := Aside0.mk (below_step (by repeat (first | (with_reducible first | exact HB.out | apply below_alloc | apply pw_below_drewN | apply below_drew1) | exact HB.out)) hb); clear HB; have HB := n0_; clear n0_; (try clear hb); (try clear hb2); (try clear hk); (try clear hi)) | ((with_reducible refine gate_dst (N := 5) rfl ?_); refine Kd.R_lit k32 _ 32 ?hg (N := 5) ?hd (xs := ([(⟨t223, t224⟩ : S32)] : List (S32))) (inner := [.int .i64 t223, .int .i64 t224]) (ok := fun _ => True) (okp := fun _ => True) ?hr ?hp (fun _ hk => hk) trivial (Below.refl _ _) (Nat.le_refl _) (by simp) ?_; (case hd => rfl); (case hg => rfl); (case hr => first | (go_simp; done) | (go_simp; rfl)); (case hp => exact (Reps.c2 (show Kd.M k32 _ _ _ (⟨t223, t224⟩ : S32) [.int .i64 t223, .int .i64 t224] from (k32_mkM _ _ _ (⟨t223, t224⟩ : S32) )) (Reps.none _ _))); intro v226 w5 ho6 hb hg_ hnew_; clear hg_ hnew_; (first | rw [← Ny225.out] at ho6 | (simp only [Int.reduceToNat] at ho6; rw [← Ny225.out] at ho6)); have n0_ := Aside0.mk (Kd.R_lower ho6 (below_size (by repeat (first | (with_reducible first | exact HB.out | apply below_alloc | apply pw_below_drewN | apply below_drew1) | exact HB.out)))); have n1_ := Aside0.mk (below_step (by repeat (first | (with_reducible first | exact HB.out | apply below_alloc | apply pw_below_drewN | apply below_drew1) | exact HB.out)) hb); clear HB; have HO227 := n0_; have HB := n1_; clear n0_ n1_; clear hb ho6; obtain ⟨Ao7, co7, eo7⟩ := Kd.R_slice HO227.out; subst eo7) | ((with_reducible refine gate_callee (f := 51) rfl ?_); refine goesL_ (some 7) rfl rfl Try.func51 (by kernel_rfl) rfl #[.int .i64 2, .slice Ao7 y225.length co7, .slice A0 l0.length c0] rfl (by (try simp only [List.map_toArray, List.map_cons, List.map_nil]); first | done | rfl | (simp only [List.length_drop, List.length_take]; rfl)) ?_; (with_reducible refine (kimberliteref01_Two.calls k 2 _ _ y225 _ _ l0 t228 t229 _ ?side1 ?side2 ?side3 ?side4 A3.out).mono ?_); (case side1 => repeat (first | exact (Kd.R_reads' HO227.out).2.2 | (with_reducible refine Kd.C_alloc ?_ _) | (with_reducible refine Kd.C_drewN ?_ _) | (with_reducible refine Kd.C_drew ?_))); (case side2 => exact (Kd.R_reads' HO227.out).2.1); (case side3 => repeat (first | exact (Kd.C_below HR0.out HB.out) | (with_reducible refine Kd.C_alloc ?_ _) | (with_reducible refine Kd.C_drewN ?_ _) | (with_reducible refine Kd.C_drew ?_))); (case side4 => exact HC0.out); rintro e w8 ⟨v230, rfl, ho0, hb⟩; refine ⟨_, rfl, ?_⟩; have n0_ := Aside0.mk (Kd.R_elder' (by (with_reducible repeat (first | apply Kd.R_alloc | apply Kd.R_drewN | apply Kd.R_drew)); exact HO227.out) (Kd.R_base ho0) hb); have n1_ := Aside0.mk (Kd.R_lower (Kd.R_new' ho0 (Kd.R_lt (by (with_reducible repeat (first | apply Kd.R_alloc | apply Kd.R_drewN | apply Kd.R_drew)); exact HO227.out))) (below_size (by repeat (first | (with_reducible first | exact HB.out | apply below_alloc | apply pw_below_drewN | apply below_drew1) | exact HB.out)))); have n2_ := Aside0.mk (below_step (by repeat (first | (with_reducible first | exact HB.out | apply below_alloc | apply pw_below_drewN | apply below_drew1) | exact HB.out)) hb); clear HO227; clear HB; have HO227 := n0_; have HO231 := n1_; have HB := n2_; clear n0_ n1_ n2_; (try clear hb); (try clear hb2); (try clear hk); (try clear hi); (try clear ho0)))
 go_ret2
 exact ⟨_, by first | rfl | (simp [errW_none, errW_some] <;> rfl) | (simp [*, errW_none, errW_some] <;> rfl), by (with_reducible repeat (first | apply Kd.R_alloc | apply Kd.R_drewN | apply Kd.R_drew)); exact Kd.R_mono HO231.out (fun _ hk => trivial), by repeat (first | (with_reducible first | exact HB.out | apply below_alloc | apply pw_below_drewN | apply below_drew1) | exact HB.out)⟩
end Go.Proofs.Ytningpmoojnomaa.Pr
end
section
namespace Go.Proofs.Ytningpmoojnomaa.Pr
open Go.RowKit Go.Shelf Go.Proofs.YtningpmoojnomaaW.PrintWords Go.Proofs.YtningpmoojnomaaW.PrintLast Go.Proofs.YtningpmoojnomaaW.PrintMore
set_option linter.unusedVariables false
set_option linter.unusedSimpArgs false
def hasS (x : Int) (s : S32) : Bool := decide (s.f0 ≤ x) && decide (x < s.f1)
end Go.Proofs.Ytningpmoojnomaa.Pr
end
section
namespace Go.Proofs.Ytningpmoojnomaa.Pr
open Go.RowKit Go.Proofs.YtningpmoojnomaaW.PrintWords Go.Proofs.YtningpmoojnomaaW.PrintLast Go.Proofs.YtningpmoojnomaaW.PrintMore
set_option linter.unusedVariables false
set_option linter.unusedSimpArgs false
theorem rd_nat (l : List S32) (i : Nat) : rd_T32 l (i : Int) = l.getD i z32 := by unfold rd_T32; rw [Int.toNat_natCast]
theorem wrap_succ {i n : Nat} (h : i < n) (hn : n ≤ 9223372036854775807) : wrap64 ((i : Int) + 1) = ((i + 1 : Nat) : Int) := by
  unfold wrap64
  omega
theorem wrap_pred {i n : Nat} (h0 : 0 < i) (h : i < n) (hn : n ≤ 9223372036854775807) : wrap64 ((i : Int) - 1) = ((i - 1 : Nat) : Int) := by
  unfold wrap64
  omega
theorem mx_eq (a b : Int) : mx a b = max a b := by unfold mx; omega
theorem drop_cons (l : List S32) (i : Nat) (h : i < l.length) : l.drop i = l.getD i z32 :: l.drop (i + 1) := by
  rw [List.drop_eq_getElem_cons h]
  simp [List.getD_eq_getElem?_getD, List.getElem?_eq_getElem h]
def okAt (l : List S32) (i : Nat) : Bool := goodS (l.getD i z32) && (i == 0 || decide ((l.getD (i - 1) z32).f1 < (l.getD i z32).f0))
def validFrom (l : List S32) (i : Nat) : Bool := (List.range' i (l.length - i)).all (okAt l)
theorem validFrom_end (l : List S32) (i : Nat) (h : l.length ≤ i) : validFrom l i = true := by
  unfold validFrom
  rw [Nat.sub_eq_zero_of_le h]
  rfl
theorem validFrom_step (l : List S32) (i : Nat) (h : i < l.length) : validFrom l i = (okAt l i && validFrom l (i + 1)) := by
  unfold validFrom
  rw [show l.length - i = (l.length - (i + 1)) + 1 by omega, List.range'_succ, List.all_cons]
def validS (l : List S32) : Bool := decide (l.length ≤ 128) && validFrom l 0
theorem spanValid_step (l : List S32) (i k : Nat) (h : i < l.length) (hn : l.length ≤ 9223372036854775807) :
    span_Valid.l0 (k + 1) l l (l.length : Int) (i : Int) = span_Valid.j1 k l l (l.length : Int) (i : Int) (!okAt l i) := by
  have hlt : (i : Int) < (l.length : Int) := by omega
  simp only [span_Valid.l0]
  rw [if_pos hlt, if_pos (by omega), if_pos hlt, goodS_f, Option.bind_some]
  unfold okAt
  cases hg : goodS (rd_T32 l (i : Int)) with
  | false => rw [rd_nat] at hg; simp only [hg]; simp
  | true =>
    rw [rd_nat] at hg
    simp only [hg, Bool.true_and]
    rw [if_pos trivial]
    by_cases h0 : i = 0
    · subst h0
      simp
    · have e0 : (i == 0) = false := by simpa using h0
      rw [if_pos (by omega : (i : Int) > 0), wrap_pred (by omega) h hn, if_pos (by omega), if_pos (by omega), rd_nat, rd_nat, e0, Bool.false_or]
      congr 1
      rw [Bool.eq_iff_iff]
      simp
theorem spanValid_loop (l : List S32) (hn : l.length ≤ 9223372036854775807) : ∀ (d i : Nat), l.length - i = d → Ev (fun k => span_Valid.l0 k l l (l.length : Int) (i : Int)) (validFrom l i)
  | 0, i, h => by
    rw [validFrom_end l i (by omega)]
    exact Ev.step (f := fun _ => some true) (fun k => by simp only [span_Valid.l0]; rw [if_neg (by omega)]) (Ev.now _)
  | d + 1, i, h => by
    rw [validFrom_step l i (by omega)]
    refine Ev.step (fun k => spanValid_step l i k (by omega) hn) ?_
    cases okAt l i with
    | true => exact Ev.step (f := fun k => span_Valid.l0 k l l (l.length : Int) ((i + 1 : Nat) : Int)) (fun k => by simp only [span_Valid.j1]; rw [wrap_succ (show i < l.length by omega) hn]; simp) (by simpa using spanValid_loop l hn d (i + 1) (by omega))
    | false => exact Ev.step (f := fun _ => some false) (fun k => by simp only [span_Valid.j1]; simp) (Ev.now _)
theorem spanValid_ev (l : List S32) (hn : l.length ≤ 9223372036854775807) : Ev (fun k => span_Valid.f k l) (validS l) := by
  unfold span_Valid.f validS
  by_cases h : (l.length : Int) > 128
  · rw [show decide (l.length ≤ 128) = false by simp; omega]
    simpa [h] using Ev.now false
  · rw [show decide (l.length ≤ 128) = true by simp; omega]
    simpa [h] using spanValid_loop l hn _ 0 rfl
theorem refGood_f (x : S32) : kimberliteref01_Good.f x.f0 x.f1 = some (goodS x) := goodS_f x
theorem refValid_step (l : List S32) (i k : Nat) (h : i < l.length) (hn : l.length ≤ 9223372036854775807) :
    kimberliteref01_Valid.l0 (k + 1) l (i : Int) = kimberliteref01_Valid.j1 k l (i : Int) (!okAt l i) := by
  have hlt : (i : Int) < (l.length : Int) := by omega
  simp only [kimberliteref01_Valid.l0]
  rw [if_pos hlt, if_pos (by omega), refGood_f, Option.bind_some]
  unfold okAt
  cases hg : goodS (rd_T32 l (i : Int)) with
  | false => rw [rd_nat] at hg; simp only [hg]; simp
  | true =>
    rw [rd_nat] at hg
    simp only [hg, Bool.true_and]
    rw [if_pos trivial]
    by_cases h0 : i = 0
    · subst h0
      simp
    · have e0 : (i == 0) = false := by simpa using h0
      rw [if_pos (by omega : (i : Int) > 0), wrap_pred (by omega) h hn, if_pos (by omega), if_pos (by omega), rd_nat, rd_nat, e0, Bool.false_or]
      congr 1
      rw [Bool.eq_iff_iff]
      simp
theorem refValid_loop (l : List S32) (hn : l.length ≤ 9223372036854775807) : ∀ (d i : Nat), l.length - i = d → Ev (fun k => kimberliteref01_Valid.l0 k l (i : Int)) (validFrom l i)
  | 0, i, h => by
    rw [validFrom_end l i (by omega)]
    exact Ev.step (f := fun _ => some true) (fun k => by simp only [kimberliteref01_Valid.l0]; rw [if_neg (by omega)]) (Ev.now _)
  | d + 1, i, h => by
    rw [validFrom_step l i (by omega)]
    refine Ev.step (fun k => refValid_step l i k (by omega) hn) ?_
    cases okAt l i with
    | true => exact Ev.step (f := fun k => kimberliteref01_Valid.l0 k l ((i + 1 : Nat) : Int)) (fun k => by simp only [kimberliteref01_Valid.j1]; rw [wrap_succ (show i < l.length by omega) hn]; simp) (by simpa using refValid_loop l hn d (i + 1) (by omega))
    | false => exact Ev.step (f := fun _ => some false) (fun k => by simp only [kimberliteref01_Valid.j1]; simp) (Ev.now _)
theorem refValid_ev (l : List S32) (hn : l.length ≤ 9223372036854775807) : Ev (fun k => kimberliteref01_Valid.f k l) (validS l) := by
  unfold kimberliteref01_Valid.f validS
  by_cases h : (l.length : Int) > 128
  · rw [show decide (l.length ≤ 128) = false by simp; omega]
    simpa [h] using Ev.now false
  · rw [show decide (l.length ≤ 128) = true by simp; omega]
    simpa [h] using refValid_loop l hn _ 0 rfl
theorem refIn_loop (l : List S32) (x : Int) (hn : l.length ≤ 9223372036854775807) : ∀ (d i : Nat), l.length - i = d → Ev (fun k => kimberliteref01_in.l0 k l x (i : Int)) ((l.drop i).any (hasS x))
  | 0, i, h => by
    rw [List.drop_eq_nil_of_le (by omega)]
    exact Ev.step (f := fun _ => some false) (fun k => by simp only [kimberliteref01_in.l0]; rw [if_neg (by omega)]) (Ev.now _)
  | d + 1, i, h => by
    have hi : i < l.length := by omega
    rw [drop_cons l i hi, List.any_cons]
    refine Ev.step (f := fun k => kimberliteref01_in.j1 k l x (i : Int) (hasS x (l.getD i z32))) (fun k => ?_) ?_
    · simp only [kimberliteref01_in.l0]
      rw [if_pos (by omega), if_pos (by omega), rd_nat]
      unfold hasS
      by_cases hc : (l.getD i z32).f0 ≤ x
      · rw [if_pos hc, decide_eq_true hc, Bool.true_and]
      · rw [if_neg hc, decide_eq_false hc, Bool.false_and]
    · cases hasS x (l.getD i z32) with
      | true => exact Ev.step (f := fun _ => some true) (fun k => by simp only [kimberliteref01_in.j1]; simp) (Ev.now _)
      | false => exact Ev.step (f := fun k => kimberliteref01_in.l0 k l x ((i + 1 : Nat) : Int)) (fun k => by simp only [kimberliteref01_in.j1]; rw [wrap_succ hi hn]; simp) (by simpa using refIn_loop l x hn d (i + 1) (by omega))
theorem refIn_ev (l : List S32) (x : Int) (hn : l.length ≤ 9223372036854775807) : Ev (fun k => kimberliteref01_in.f k l x) (l.any (hasS x)) := by
  simpa [kimberliteref01_in.f] using refIn_loop l x hn _ 0 rfl
/-- Ascending from lo on, with gaps, below the bound. -/
def Asc (lo : Int) : List S32 → Prop
  | [] => True
  | s :: t => lo ≤ s.f0 ∧ s.f0 < s.f1 ∧ s.f1 ≤ 1099511627776 ∧ Asc (s.f1 + 1) t
theorem goodS_iff (s : S32) : goodS s = true ↔ -1099511627776 ≤ s.f0 ∧ s.f0 < s.f1 ∧ s.f1 ≤ 1099511627776 := by
  unfold goodS
  simp
theorem asc_of_valid (l : List S32) : ∀ (d i : Nat), l.length - i = d → validFrom l i = true → Asc (if i = 0 then -1099511627776 else (l.getD (i - 1) z32).f1 + 1) (l.drop i)
  | 0, i, h, _ => by rw [List.drop_eq_nil_of_le (by omega)]; trivial
  | d + 1, i, h, hv => by
    have hi : i < l.length := by omega
    rw [validFrom_step l i hi, Bool.and_eq_true] at hv
    have ih := asc_of_valid l d (i + 1) (by omega) hv.2
    rw [if_neg (by omega), Nat.add_sub_cancel] at ih
    have h1 := hv.1
    unfold okAt at h1
    rw [Bool.and_eq_true, goodS_iff] at h1
    rw [drop_cons l i hi]
    refine ⟨?_, h1.1.2.1, h1.1.2.2, ih⟩
    by_cases h0 : i = 0
    · rw [if_pos h0]; exact h1.1.1
    · rw [if_neg h0]
      have := h1.2
      have e0 : (i == 0) = false := by simpa using h0
      rw [e0, Bool.false_or] at this
      have := of_decide_eq_true this
      omega
theorem asc_valid {l : List S32} (h : validS l = true) : l.length ≤ 128 ∧ Asc (-1099511627776) l := by
  unfold validS at h
  rw [Bool.and_eq_true] at h
  refine ⟨by simpa using h.1, ?_⟩
  have := asc_of_valid l _ 0 rfl h.2
  simpa using this
end Go.Proofs.Ytningpmoojnomaa.Pr
end
section
namespace Go.Proofs.Ytningpmoojnomaa.Pr
open Go.RowKit Go.Proofs.YtningpmoojnomaaW.PrintWords Go.Proofs.YtningpmoojnomaaW.PrintLast Go.Proofs.YtningpmoojnomaaW.PrintMore
set_option linter.unusedVariables false
set_option linter.unusedSimpArgs false
def memS (l : List S32) (x : Int) : Bool := l.any (hasS x)
theorem memS_cons (s : S32) (t : List S32) (x : Int) : memS (s :: t) x = (hasS x s || memS t x) := rfl
theorem hasS_iff (x : Int) (s : S32) : hasS x s = true ↔ s.f0 ≤ x ∧ x < s.f1 := by unfold hasS; simp
theorem memS_iff (l : List S32) (x : Int) : memS l x = true ↔ ∃ s ∈ l, s.f0 ≤ x ∧ x < s.f1 := by
  unfold memS
  rw [List.any_eq_true]
  simp only [hasS_iff]
theorem asc_low : ∀ (l : List S32) (lo x : Int), Asc lo l → memS l x = true → lo ≤ x
  | [], _, _, _, h => by simp [memS] at h
  | s :: t, lo, x, ⟨h1, h2, h3, h4⟩, h => by
    rw [memS_cons, Bool.or_eq_true, hasS_iff] at h
    rcases h with h | h
    · omega
    · have := asc_low t _ x h4 h
      omega
/-- AN ASCENDING LIST IS KNOWN BY ITS NUMBERS. -/
theorem canon : ∀ (a b : List S32) (lo lo' : Int), Asc lo a → Asc lo' b → (∀ x, memS a x = memS b x) → a = b
  | [], [], _, _, _, _, _ => rfl
  | [], s :: t, _, _, _, ⟨_, h2, _, _⟩, h => by
    have := h s.f0
    rw [memS_cons, show hasS s.f0 s = true from (hasS_iff _ _).2 ⟨Int.le_refl _, h2⟩] at this
    simp [memS] at this
  | s :: t, [], _, _, ⟨_, h2, _, _⟩, _, h => by
    have := h s.f0
    rw [memS_cons, show hasS s.f0 s = true from (hasS_iff _ _).2 ⟨Int.le_refl _, h2⟩] at this
    simp [memS] at this
  | s :: t, s' :: t', lo, lo', ha, hb, h => by
    have ha' : Asc s.f0 (s :: t) := ⟨Int.le_refl _, ha.2⟩
    have hb' : Asc s'.f0 (s' :: t') := ⟨Int.le_refl _, hb.2⟩
    have m0 : memS (s :: t) s.f0 = true := by rw [memS_cons, (hasS_iff s.f0 s).2 ⟨Int.le_refl _, ha.2.1⟩]; rfl
    have m0' : memS (s' :: t') s'.f0 = true := by rw [memS_cons, (hasS_iff s'.f0 s').2 ⟨Int.le_refl _, hb.2.1⟩]; rfl
    have e0 : s.f0 = s'.f0 := by
      have h1 := asc_low _ _ _ hb' ((h s.f0).symm.trans m0)
      have h2 := asc_low _ _ _ ha' ((h s'.f0).trans m0')
      omega
    have nt : ∀ x, x ≤ s.f1 → memS t x = false := fun x hx => by
      rw [← Bool.not_eq_true]
      intro hc
      have := asc_low _ _ _ ha.2.2.2 hc
      omega
    have nt' : ∀ x, x ≤ s'.f1 → memS t' x = false := fun x hx => by
      rw [← Bool.not_eq_true]
      intro hc
      have := asc_low _ _ _ hb.2.2.2 hc
      omega
    have e1 : s.f1 = s'.f1 := by
      rcases Int.lt_trichotomy s.f1 s'.f1 with hlt | heq | hgt
      · have := h s.f1
        rw [memS_cons, memS_cons, nt s.f1 (Int.le_refl _), (hasS_iff s.f1 s').2 ⟨by have := ha.2.1; omega, hlt⟩] at this
        simp [hasS] at this
      · exact heq
      · have := h s'.f1
        rw [memS_cons, memS_cons, nt' s'.f1 (Int.le_refl _), (hasS_iff s'.f1 s).2 ⟨by have := hb.2.1; omega, hgt⟩] at this
        simp [hasS] at this
    have es : s = s' := by
      cases s
      cases s'
      simp at e0 e1
      subst e0 e1
      rfl
    subst es
    rw [canon t t' _ _ ha.2.2.2 hb.2.2.2 (fun x => by
      rcases Int.lt_or_le s.f1 x with hx | hx
      · have := h x
        rw [memS_cons, memS_cons, show hasS x s = false by rw [← Bool.not_eq_true, hasS_iff]; omega] at this
        simpa using this
      · rw [nt x hx, nt' x hx])]
def jn : List S32 → Option S32 → List S32
  | [], cur => cur.toList
  | s :: t, none => jn t (some s)
  | s :: t, some c => if s.f0 ≤ c.f1 then jn t (some ⟨c.f0, max c.f1 s.f1⟩) else c :: jn t (some s)
theorem jn_spec : ∀ (l : List S32) (cur : Option S32) (lo : Int), l.Pairwise (fun a b => a.f0 ≤ b.f0) → (∀ s ∈ l, lo ≤ s.f0 ∧ s.f0 < s.f1 ∧ s.f1 ≤ 1099511627776) →
    (∀ c, cur = some c → lo ≤ c.f0 ∧ c.f0 < c.f1 ∧ c.f1 ≤ 1099511627776 ∧ ∀ s ∈ l, c.f0 ≤ s.f0) → Asc lo (jn l cur) ∧ ∀ x, memS (jn l cur) x = (memS cur.toList x || memS l x)
  | [], none, lo, _, _, _ => ⟨trivial, fun x => by simp [jn, memS]⟩
  | [], some c, lo, _, _, hc => by
    obtain ⟨h1, h2, h3, _⟩ := hc c rfl
    exact ⟨⟨h1, h2, h3, trivial⟩, fun x => by simp [jn, memS]⟩
  | s :: t, none, lo, hp, hl, _ => by
    rw [List.pairwise_cons] at hp
    obtain ⟨h1, h2, h3⟩ := hl s (List.mem_cons_self)
    obtain ⟨ha, hm⟩ := jn_spec t (some s) lo hp.2 (fun x hx => hl x (List.mem_cons_of_mem _ hx)) (fun c hc => by
      injection hc with hc
      subst hc
      exact ⟨h1, h2, h3, hp.1⟩)
    exact ⟨ha, fun x => by rw [jn, hm x]; simp [memS]⟩
  | s :: t, some c, lo, hp, hl, hc => by
    rw [List.pairwise_cons] at hp
    obtain ⟨h1, h2, h3⟩ := hl s (List.mem_cons_self)
    obtain ⟨c1, c2, c3, c4⟩ := hc c rfl
    have c5 := c4 s (List.mem_cons_self)
    rw [jn]
    by_cases hle : s.f0 ≤ c.f1
    · rw [if_pos hle]
      obtain ⟨ha, hm⟩ := jn_spec t (some ⟨c.f0, max c.f1 s.f1⟩) lo hp.2 (fun x hx => hl x (List.mem_cons_of_mem _ hx)) (fun d hd => by
        injection hd with hd
        subst hd
        exact ⟨c1, by simp; omega, by simp; omega, fun x hx => c4 x (List.mem_cons_of_mem _ hx)⟩)
      refine ⟨ha, fun x => ?_⟩
      rw [hm x, memS_cons, ← Bool.or_assoc]
      congr 1
      simp only [Option.toList_some, memS, List.any_cons, List.any_nil, Bool.or_false]
      rw [Bool.eq_iff_iff, Bool.or_eq_true, hasS_iff, hasS_iff, hasS_iff]
      simp only
      omega
    · rw [if_neg hle]
      obtain ⟨ha, hm⟩ := jn_spec t (some s) (c.f1 + 1) hp.2 (fun x hx => by
        have := hl x (List.mem_cons_of_mem _ hx)
        have := hp.1 x hx
        exact ⟨by omega, by omega, by omega⟩) (fun d hd => by
        injection hd with hd
        subst hd
        exact ⟨by omega, h2, h3, hp.1⟩)
      exact ⟨⟨c1, c2, c3, ha⟩, fun x => by rw [memS_cons, hm x]; simp [memS]⟩
theorem rd_last (p : List S32) (c : S32) : rd_T32 (p ++ [c]) ((p.length : Nat) : Int) = c := by
  rw [rd_nat]
  simp [List.getD_eq_getElem?_getD]
theorem set_last (p : List S32) (c d : S32) : (p ++ [c]).set p.length d = p ++ [d] := by
  rw [List.set_append_right _ _ (Nat.le_refl _)]
  simp
theorem len_last (p : List S32) (c : S32) (h : p.length < 4611686018427387904) : wrap64 (((p ++ [c]).length : Int) - 1) = ((p.length : Nat) : Int) := by
  rw [List.length_append, List.length_singleton]
  unfold wrap64
  omega
theorem joined_loop (l : List S32) (hn : l.length ≤ 1000000) : ∀ (d i : Nat) (p : List S32) (c : S32), l.length - i = d → i ≤ l.length → p.length + 1 ≤ i →
    Ev (fun k => span_joined.l0 k (p ++ [c]) l (l.length : Int) (i : Int)) (p ++ jn (l.drop i) (some c))
  | 0, i, p, c, h, _, _ => by
    rw [List.drop_eq_nil_of_le (by omega)]
    exact Ev.step (f := fun _ => some (p ++ [c])) (fun k => by simp only [span_joined.l0]; rw [if_neg (by omega)]) (Ev.now _)
  | d + 1, i, p, c, h, hi', hp => by
    have hi : i < l.length := by omega
    have hw := len_last p c (by omega)
    have hlen : (((p ++ [c]).length : Nat) : Int) = (p.length : Int) + 1 := by simp
    rw [drop_cons l i hi, jn]
    refine Ev.step (f := fun k => span_joined.j1 k (p ++ [c]) ((p ++ [c]).length : Int) l (l.length : Int) (i : Int) (decide ((l.getD i z32).f0 ≤ c.f1)) (l.getD i z32).f0 (l.getD i z32).f1) (fun k => ?_) ?_
    · simp only [span_joined.l0]
      rw [if_pos (by omega), if_pos (by omega), if_pos (by omega), rd_nat, if_pos (by omega), hw, if_pos (by omega), if_pos (by omega), rd_last]
    · by_cases hle : (l.getD i z32).f0 ≤ c.f1
      · rw [if_pos hle, decide_eq_true hle]
        refine Ev.step (f := fun k => span_joined.l0 k (p ++ [⟨c.f0, max c.f1 (l.getD i z32).f1⟩]) l (l.length : Int) ((i + 1 : Nat) : Int)) (fun k => ?_) (joined_loop l hn d (i + 1) p _ (by omega) (by omega) (by omega))
        simp only [span_joined.j1]
        rw [if_pos trivial, hw, if_pos (by omega), if_pos (by omega), rd_last, wrap_succ hi (by omega), Int.toNat_natCast, set_last, mx_eq]
      · rw [if_neg hle, decide_eq_false hle]
        have := joined_loop l hn d (i + 1) (p ++ [c]) (l.getD i z32) (by omega) (by omega) (by simp; omega)
        rw [show p ++ c :: jn (l.drop (i + 1)) (some (l.getD i z32)) = (p ++ [c]) ++ jn (l.drop (i + 1)) (some (l.getD i z32)) by simp]
        refine Ev.step (fun k => ?_) this
        simp only [span_joined.j1]
        rw [if_neg (by simp), if_pos (by simp; omega), wrap_succ hi (by omega)]
theorem joined_ev (l : List S32) (hn : l.length ≤ 1000000) : Ev (fun k => span_joined.f k l) (jn l none) := by
  unfold span_joined.f
  rcases l with _ | ⟨s, t⟩
  · exact Ev.step (f := fun _ => some []) (fun k => by simp only [span_joined.l0]; simp) (Ev.now _)
  · refine Ev.step (f := fun k => span_joined.j1 k [] 0 (s :: t) ((s :: t).length : Int) 0 false s.f0 s.f1) (fun k => ?_) ?_
    · simp only [span_joined.l0]
      rw [if_pos (by simp), if_pos (by omega), if_pos (by simp)]
      simp [rd_T32]
    · have := joined_loop (s :: t) hn t.length 1 [] s (by simp) (by simp) (by simp)
      refine Ev.step (fun k => ?_) this
      simp only [span_joined.j1]
      rw [if_neg (by simp), if_pos (by simp)]
      simp [wrap64]
def putRest (x : Int) : List Int → Bool → List Int
  | [], done => if done = true then [] else [x]
  | y :: t, done => if done = false ∧ x ≤ y then (if y = x then x :: putRest x t true else x :: y :: putRest x t true) else (if y = x then putRest x t done else y :: putRest x t done)
def putL (l : List Int) (x : Int) : List Int := putRest x l false
theorem putRest_done (x : Int) : ∀ l : List Int, (∀ y ∈ l, x < y) → putRest x l true = l
  | [], _ => rfl
  | y :: t, h => by
    have := h y (List.mem_cons_self)
    rw [putRest, if_neg (by simp), if_neg (by omega), putRest_done x t (fun z hz => h z (List.mem_cons_of_mem _ hz))]
theorem putL_spec (x : Int) : ∀ l : List Int, l.Pairwise (· < ·) → (putL l x).Pairwise (· < ·) ∧ (∀ z, z ∈ putL l x ↔ z = x ∨ z ∈ l) ∧ (putL l x).length ≤ l.length + 1
  | [], _ => by simp [putL, putRest]
  | y :: t, h => by
    have h0 := h
    rw [List.pairwise_cons] at h
    have ih := putL_spec x t h.2
    unfold putL at ih ⊢
    rw [putRest]
    by_cases hle : x ≤ y
    · rw [if_pos ⟨rfl, hle⟩]
      have hgt : ∀ z ∈ t, x < z := fun z hz => by have := h.1 z hz; omega
      rw [putRest_done x t hgt]
      by_cases he : y = x
      · subst he
        rw [if_pos rfl]
        exact ⟨h0, fun z => by simp, by simp⟩
      · rw [if_neg he]
        refine ⟨?_, fun z => by simp, by simp⟩
        rw [List.pairwise_cons]
        refine ⟨fun z hz => ?_, h0⟩
        rcases List.mem_cons.1 hz with rfl | hz
        · omega
        · exact hgt z hz
    · rw [if_neg (fun hc => hle hc.2), if_neg (by omega)]
      refine ⟨?_, fun z => ?_, ?_⟩
      · rw [List.pairwise_cons]
        refine ⟨fun z hz => ?_, ih.1⟩
        rcases (ih.2.1 z).1 hz with rfl | hz
        · omega
        · exact h.1 z hz
      · rw [List.mem_cons, ih.2.1 z, List.mem_cons]
        exact ⟨fun h => h.elim (fun h => .inr (.inl h)) (fun h => h.elim .inl (fun h => .inr (.inr h))), fun h => h.elim (fun h => .inr (.inl h)) (fun h => h.elim .inl (fun h => .inr (.inr h)))⟩
      · have := ih.2.2
        simp
        omega
theorem dropI (l : List Int) (i : Nat) (h : i < l.length) : l.drop i = rd l (i : Int) :: l.drop (i + 1) := by
  rw [List.drop_eq_getElem_cons h]
  unfold rd
  simp [List.getD_eq_getElem?_getD, List.getElem?_eq_getElem h]
theorem put_loop (l : List Int) (x : Int) (hn : l.length ≤ 1000000) : ∀ (d i : Nat) (out : List Int) (done : Bool), l.length - i = d → out.length ≤ 2 * i → i ≤ l.length →
    Ev (fun k => kimberliteref01_put.l0 k l x out done (i : Int)) (out ++ putRest x (l.drop i) done)
  | 0, i, out, done, h, ho, _ => by
    rw [List.drop_eq_nil_of_le (by omega), putRest]
    cases done with
    | true => exact Ev.step (f := fun _ => some (out ++ [])) (fun k => by simp only [kimberliteref01_put.l0]; rw [if_neg (by omega)]; simp) (Ev.now _)
    | false => exact Ev.step (f := fun _ => some (out ++ [x])) (fun k => by simp only [kimberliteref01_put.l0]; rw [if_neg (by omega), if_neg (by simp), if_pos (by omega)]) (Ev.now _)
  | d + 1, i, out, done, h, ho, hi' => by
    have hi : i < l.length := by omega
    rw [dropI l i hi]
    -- the second half of a round
    have half : ∀ (o : List Int) (b : Bool), o.length ≤ 2 * i + 1 → Ev (fun k => kimberliteref01_put.j2 k l x o b (i : Int)) (o ++ (if rd l (i : Int) = x then putRest x (l.drop (i + 1)) b else rd l (i : Int) :: putRest x (l.drop (i + 1)) b)) := by
      intro o b hob
      by_cases he : rd l (i : Int) = x
      · rw [if_pos he]
        refine Ev.step (fun k => ?_) (put_loop l x hn d (i + 1) o b (by omega) (by omega) (by omega))
        simp only [kimberliteref01_put.j2]
        rw [if_pos (by omega), if_pos (by omega), if_pos he, wrap_succ hi (by omega)]
      · rw [if_neg he]
        have := put_loop l x hn d (i + 1) (o ++ [rd l (i : Int)]) b (by omega) (by simp; omega) (by omega)
        rw [List.append_assoc, List.singleton_append] at this
        refine Ev.step (fun k => ?_) this
        simp only [kimberliteref01_put.j2]
        rw [if_pos (by omega), if_pos (by omega), if_neg he, if_pos (by omega), wrap_succ hi (by omega)]
    rw [putRest]
    cases done with
    | true =>
      rw [if_neg (by simp)]
      refine Ev.step (f := fun k => kimberliteref01_put.j1 k l x out true (i : Int) false) (fun k => by simp only [kimberliteref01_put.l0]; rw [if_pos (by omega)]; simp) ?_
      exact Ev.step (fun k => by simp only [kimberliteref01_put.j1]; simp) (half out true (by omega))
    | false =>
      refine Ev.step (f := fun k => kimberliteref01_put.j1 k l x out false (i : Int) (decide (x ≤ rd l (i : Int)))) (fun k => by simp only [kimberliteref01_put.l0]; rw [if_pos (by omega), if_neg (by simp), if_pos (by omega)]) ?_
      by_cases hle : x ≤ rd l (i : Int)
      · rw [if_pos ⟨rfl, hle⟩, decide_eq_true hle]
        have := half (out ++ [x]) true (by simp; omega)
        rw [List.append_assoc, List.singleton_append] at this
        refine Ev.step (f := fun k => kimberliteref01_put.j2 k l x (out ++ [x]) true (i : Int)) (fun k => by simp only [kimberliteref01_put.j1]; rw [if_pos trivial, if_pos (by omega)]) ?_
        by_cases he : rd l (i : Int) = x
        · rw [if_pos he] at this ⊢
          exact this
        · rw [if_neg he] at this ⊢
          exact this
      · rw [if_neg (fun hc => hle hc.2), decide_eq_false hle]
        exact Ev.step (fun k => by simp only [kimberliteref01_put.j1]; simp) (half out false (by omega))
theorem put_ev (l : List Int) (x : Int) (hn : l.length ≤ 1000000) : Ev (fun k => kimberliteref01_put.f k l x) (putL l x) := by
  simpa [kimberliteref01_put.f, putL] using put_loop l x hn _ 0 [] false rfl (by simp) (by simp)
def endsL (E : List Int) (l : List S32) : List Int := l.foldl (fun E s => putL (putL E s.f0) s.f1) E
theorem endsL_spec : ∀ (l : List S32) (E : List Int), E.Pairwise (· < ·) → (endsL E l).Pairwise (· < ·) ∧ (∀ z, z ∈ endsL E l ↔ z ∈ E ∨ ∃ s ∈ l, z = s.f0 ∨ z = s.f1) ∧ (endsL E l).length ≤ E.length + 2 * l.length
  | [], E, h => by simp [endsL, h]
  | s :: t, E, h => by
    obtain ⟨p1, m1, n1⟩ := putL_spec s.f0 E h
    obtain ⟨p2, m2, n2⟩ := putL_spec s.f1 _ p1
    obtain ⟨p3, m3, n3⟩ := endsL_spec t _ p2
    refine ⟨p3, fun z => ?_, ?_⟩
    · show z ∈ endsL _ t ↔ _
      rw [m3 z, m2 z, m1 z]
      simp only [List.mem_cons, exists_eq_or_imp]
      constructor
      · rintro ((h | h | h) | h)
        · exact .inr (.inl (.inr h))
        · exact .inr (.inl (.inl h))
        · exact .inl h
        · exact .inr (.inr h)
      · rintro (h | (h | h) | h)
        · exact .inl (.inr (.inr h))
        · exact .inl (.inr (.inl h))
        · exact .inl (.inl h)
        · exact .inr h
    · show (endsL _ t).length ≤ _
      simp
      omega
theorem made_l0 (kind : Int) (a b : List S32) (r : List S32) (ha : a.length ≤ 1000) : ∀ (d i : Nat) (E : List Int), a.length - i = d → E.Pairwise (· < ·) → E.length ≤ 2 * i →  i ≤ a.length →
    Ev (fun k => kimberliteref01_Made.l1 k kind a b (endsL E (a.drop i)) 0) r → Ev (fun k => kimberliteref01_Made.l0 k kind a b E (i : Int)) r
  | 0, i, E, h, hp, he, _, hr => by
    rw [List.drop_eq_nil_of_le (by omega)] at hr
    exact Ev.step (fun k => by simp only [kimberliteref01_Made.l0]; rw [if_neg (by omega)]; rfl) hr
  | d + 1, i, E, h, hp, he, hi', hr => by
    have hi : i < a.length := by omega
    rw [drop_cons a i hi] at hr
    obtain ⟨p1, m1, n1⟩ := putL_spec (a.getD i z32).f0 E hp
    obtain ⟨p2, m2, n2⟩ := putL_spec (a.getD i z32).f1 _ p1
    refine Ev.step (f := fun k => (kimberliteref01_put.f k E (a.getD i z32).f0).bind fun t179 => ((kimberliteref01_put.f k t179 (a.getD i z32).f1).bind fun t183 => (kimberliteref01_Made.l0 k kind a b t183 ((i + 1 : Nat) : Int)))) (fun k => ?_) ?_
    · simp only [kimberliteref01_Made.l0]
      rw [if_pos (by omega), if_pos (by omega), rd_nat, wrap_succ hi (by omega)]
    · refine Ev.bind (put_ev _ _ (by omega)) (Ev.bind (put_ev _ _ (by omega)) ?_)
      exact made_l0 kind a b r ha d (i + 1) _ (by omega) p2 (by omega) (by omega) hr
theorem made_l1 (kind : Int) (a b : List S32) (r : List S32) (hb : b.length ≤ 1000) (N : Nat) (hN : N ≤ 2000) : ∀ (d i : Nat) (E : List Int), b.length - i = d → E.Pairwise (· < ·) → E.length ≤ N + 2 * i → i ≤ b.length →
    Ev (fun k => kimberliteref01_Made.l2 k kind a b (endsL E (b.drop i)) [] 0) r → Ev (fun k => kimberliteref01_Made.l1 k kind a b E (i : Int)) r
  | 0, i, E, h, hp, he, _, hr => by
    rw [List.drop_eq_nil_of_le (by omega)] at hr
    exact Ev.step (fun k => by simp only [kimberliteref01_Made.l1]; rw [if_neg (by omega)]; rfl) hr
  | d + 1, i, E, h, hp, he, hi', hr => by
    have hi : i < b.length := by omega
    rw [drop_cons b i hi] at hr
    obtain ⟨p1, m1, n1⟩ := putL_spec (b.getD i z32).f0 E hp
    obtain ⟨p2, m2, n2⟩ := putL_spec (b.getD i z32).f1 _ p1
    refine Ev.step (f := fun k => (kimberliteref01_put.f k E (b.getD i z32).f0).bind fun t179 => ((kimberliteref01_put.f k t179 (b.getD i z32).f1).bind fun t183 => (kimberliteref01_Made.l1 k kind a b t183 ((i + 1 : Nat) : Int)))) (fun k => ?_) ?_
    · simp only [kimberliteref01_Made.l1]
      rw [if_pos (by omega), if_pos (by omega), rd_nat, wrap_succ hi (by omega)]
    · refine Ev.bind (put_ev _ _ (by omega)) (Ev.bind (put_ev _ _ (by omega)) ?_)
      exact made_l1 kind a b r hb N hN d (i + 1) _ (by omega) p2 (by omega) (by omega) hr
def gen (p : Int → Bool) : List Int → Option S32 → List S32
  | e :: e' :: t, none => if p e = true then gen p (e' :: t) (some ⟨e, e'⟩) else gen p (e' :: t) none
  | e :: e' :: t, some c => if p e = true then (if c.f1 = e then gen p (e' :: t) (some ⟨c.f0, e'⟩) else c :: gen p (e' :: t) (some ⟨e, e'⟩)) else gen p (e' :: t) (some c)
  | _, cur => cur.toList
def inP (p : Int → Bool) : List Int → Int → Bool
  | e :: e' :: t, x => (p e && (decide (e ≤ x) && decide (x < e'))) || inP p (e' :: t) x
  | _, _ => false
theorem inP_low (p : Int → Bool) : ∀ (E : List Int) (x : Int), (∀ e ∈ E, x < e) → inP p E x = false
  | [], _, _ => rfl
  | [_], _, _ => rfl
  | e :: e' :: t, x, h => by
    rw [inP, inP_low p (e' :: t) x (fun z hz => h z (List.mem_cons_of_mem _ hz))]
    have := h e (List.mem_cons_self)
    rw [show decide (e ≤ x) = false by simp; omega]
    simp
theorem gen_spec (p : Int → Bool) : ∀ (E : List Int) (cur : Option S32) (lo : Int), E.Pairwise (· < ·) → (∀ e ∈ E, lo ≤ e ∧ e ≤ 1099511627776) →
    (∀ c, cur = some c → lo ≤ c.f0 ∧ c.f0 < c.f1 ∧ c.f1 ≤ 1099511627776 ∧ ∀ e ∈ E, c.f1 ≤ e) → Asc lo (gen p E cur) ∧ ∀ x, memS (gen p E cur) x = (memS cur.toList x || inP p E x)
  | [], cur, lo, _, _, hc => by
    cases cur with
    | none => exact ⟨trivial, fun x => by simp [gen, inP, memS]⟩
    | some c => obtain ⟨h1, h2, h3, _⟩ := hc c rfl; exact ⟨⟨h1, h2, h3, trivial⟩, fun x => by simp [gen, inP, memS]⟩
  | [e], cur, lo, _, _, hc => by
    cases cur with
    | none => exact ⟨trivial, fun x => by simp [gen, inP, memS]⟩
    | some c => obtain ⟨h1, h2, h3, _⟩ := hc c rfl; exact ⟨⟨h1, h2, h3, trivial⟩, fun x => by simp [gen, inP, memS]⟩
  | e :: e' :: t, none, lo, hp, hE, _ => by
    rw [List.pairwise_cons] at hp
    have hee := hp.1 e' (List.mem_cons_self)
    have he := hE e (List.mem_cons_self)
    have he' := hE e' (List.mem_cons_of_mem _ List.mem_cons_self)
    have hE' := fun z hz => hE z (List.mem_cons_of_mem _ hz)
    rw [gen]
    by_cases hpe : p e = true
    · rw [if_pos hpe]
      obtain ⟨ha, hm⟩ := gen_spec p (e' :: t) (some ⟨e, e'⟩) lo hp.2 hE' (fun c hc => by
        injection hc with hc
        subst hc
        refine ⟨he.1, hee, he'.2, fun z hz => ?_⟩
        rcases List.mem_cons.1 hz with rfl | hz
        · exact Int.le_refl _
        · have := (List.pairwise_cons.1 hp.2).1 z hz
          exact Int.le_of_lt this)
      refine ⟨ha, fun x => ?_⟩
      rw [hm x, inP, hpe]
      simp [memS, hasS]
    · rw [if_neg hpe]
      obtain ⟨ha, hm⟩ := gen_spec p (e' :: t) none lo hp.2 hE' (fun c hc => by cases hc)
      refine ⟨ha, fun x => ?_⟩
      rw [hm x, inP, Bool.eq_false_iff.2 hpe]
      simp
  | e :: e' :: t, some c, lo, hp, hE, hc => by
    rw [List.pairwise_cons] at hp
    have hee := hp.1 e' (List.mem_cons_self)
    have he := hE e (List.mem_cons_self)
    have he' := hE e' (List.mem_cons_of_mem _ List.mem_cons_self)
    have hE' := fun z hz => hE z (List.mem_cons_of_mem _ hz)
    have hle' : ∀ z ∈ e' :: t, e' ≤ z := fun z hz => by
      rcases List.mem_cons.1 hz with rfl | hz
      · exact Int.le_refl _
      · have := (List.pairwise_cons.1 hp.2).1 z hz
        exact Int.le_of_lt this
    obtain ⟨c1, c2, c3, c4⟩ := hc c rfl
    have c5 := c4 e (List.mem_cons_self)
    rw [gen]
    by_cases hpe : p e = true
    · rw [if_pos hpe]
      by_cases hce : c.f1 = e
      · rw [if_pos hce]
        obtain ⟨ha, hm⟩ := gen_spec p (e' :: t) (some ⟨c.f0, e'⟩) lo hp.2 hE' (fun d hd => by
          injection hd with hd
          subst hd
          exact ⟨c1, by simp; omega, he'.2, hle'⟩)
        refine ⟨ha, fun x => ?_⟩
        rw [hm x, inP, hpe, ← Bool.or_assoc]
        congr 1
        simp only [Option.toList_some, memS, List.any_cons, List.any_nil, Bool.or_false, hasS, Bool.true_and]
        rw [Bool.eq_iff_iff]
        simp
        omega
      · rw [if_neg hce]
        obtain ⟨ha, hm⟩ := gen_spec p (e' :: t) (some ⟨e, e'⟩) (c.f1 + 1) hp.2 (fun z hz => by
          have := hle' z hz
          exact ⟨by omega, (hE' z hz).2⟩) (fun d hd => by
          injection hd with hd
          subst hd
          exact ⟨by simp; omega, hee, he'.2, hle'⟩)
        refine ⟨⟨c1, c2, c3, ha⟩, fun x => ?_⟩
        rw [memS_cons, hm x, inP, hpe]
        simp [memS, hasS]
    · rw [if_neg hpe]
      obtain ⟨ha, hm⟩ := gen_spec p (e' :: t) (some c) lo hp.2 hE' (fun d hd => by
        injection hd with hd
        subst hd
        exact ⟨c1, c2, c3, fun z hz => c4 z (List.mem_cons_of_mem _ hz)⟩)
      refine ⟨ha, fun x => ?_⟩
      rw [hm x, inP, Bool.eq_false_iff.2 hpe]
      simp
/-- Between two ends that follow one another all numbers are alike. -/
theorem floor_mem (l : List S32) (e e' x : Int) (h : ∀ s ∈ l, (s.f0 ≤ e ∨ e' ≤ s.f0) ∧ (s.f1 ≤ e ∨ e' ≤ s.f1)) (h1 : e ≤ x) (h2 : x < e') : memS l x = memS l e := by
  rw [Bool.eq_iff_iff, memS_iff, memS_iff]
  constructor
  · rintro ⟨s, hs, hx⟩
    have := h s hs
    exact ⟨s, hs, by omega⟩
  · rintro ⟨s, hs, hx⟩
    have := h s hs
    exact ⟨s, hs, by omega⟩
theorem inP_floor (q : Bool → Bool → Bool) (hq : q false false = false) (a b : List S32) : ∀ (E : List Int), E.Pairwise (· < ·) → E ≠ [] →
    (∀ s, s ∈ a ∨ s ∈ b → (s.f0 ∈ E ∨ ∀ z ∈ E, s.f0 ≤ z) ∧ (s.f1 ∈ E ∨ ∀ z ∈ E, s.f1 ≤ z)) → ∀ x, (∃ e ∈ E.head?, e ≤ x) → inP (fun e => q (memS a e) (memS b e)) E x = q (memS a x) (memS b x)
  | [], _, h, _, _, _ => absurd rfl h
  | [e], _, _, h, x, ⟨e0, he0, hx⟩ => by
    simp at he0
    subst he0
    have key : ∀ l : List S32, (∀ s ∈ l, s ∈ a ∨ s ∈ b) → memS l x = false := fun l hl => by
      rw [← Bool.not_eq_true, memS_iff]
      rintro ⟨s, hs, hsx⟩
      have := (h s (hl s hs)).2
      rcases this with this | this
      · simp at this; omega
      · have := this e (List.mem_cons_self); omega
    rw [key a (fun s hs => .inl hs), key b (fun s hs => .inr hs), hq]
    rfl
  | e :: e' :: t, hp, _, h, x, ⟨e0, he0, hx⟩ => by
    simp at he0
    subst he0
    rw [List.pairwise_cons] at hp
    have hlow : ∀ z ∈ e' :: t, e' ≤ z := fun z hz => by
      rcases List.mem_cons.1 hz with rfl | hz
      · exact Int.le_refl _
      · have := (List.pairwise_cons.1 hp.2).1 z hz
        exact Int.le_of_lt this
    have hee := hp.1 e' (List.mem_cons_self)
    have side : ∀ v : Int, (v ∈ e :: e' :: t ∨ ∀ z ∈ e :: e' :: t, v ≤ z) → v ≤ e ∨ e' ≤ v := fun v hv => by
      rcases hv with hv | hv
      · rcases List.mem_cons.1 hv with rfl | hv
        · exact .inl (Int.le_refl _)
        · exact .inr (hlow v hv)
      · exact .inl (hv e (List.mem_cons_self))
    rw [inP]
    by_cases hx' : x < e'
    · rw [inP_low _ (e' :: t) x (fun z hz => by have := hlow z hz; omega), decide_eq_true hx, decide_eq_true hx']
      rw [floor_mem a e e' x (fun s hs => ⟨side _ (h s (.inl hs)).1, side _ (h s (.inl hs)).2⟩) hx hx', floor_mem b e e' x (fun s hs => ⟨side _ (h s (.inr hs)).1, side _ (h s (.inr hs)).2⟩) hx hx']
      simp
    · rw [decide_eq_false hx', Bool.and_false, Bool.and_false, Bool.false_or]
      refine inP_floor q hq a b (e' :: t) hp.2 (by simp) (fun s hs => ?_) x ⟨e', by simp, by omega⟩
      have step : ∀ v : Int, (v ∈ e :: e' :: t ∨ ∀ z ∈ e :: e' :: t, v ≤ z) → v ∈ e' :: t ∨ ∀ z ∈ e' :: t, v ≤ z := fun v hv => by
        rcases hv with hv | hv
        · rcases List.mem_cons.1 hv with rfl | hv
          · exact .inr (fun z hz => Int.le_of_lt (hp.1 z hz))
          · exact .inl hv
        · exact .inr (fun z hz => hv z (List.mem_cons_of_mem _ hz))
      exact ⟨step _ (h s hs).1, step _ (h s hs).2⟩
/-- WHAT THE PIECES COME TO. -/
theorem inP_ends (q : Bool → Bool → Bool) (hq : q false false = false) (a b : List S32) (hv : ∀ s, s ∈ a ∨ s ∈ b → s.f0 < s.f1) (E : List Int) (hp : E.Pairwise (· < ·)) (hE : ∀ s, s ∈ a ∨ s ∈ b → s.f0 ∈ E ∧ s.f1 ∈ E) (x : Int) :
    inP (fun e => q (memS a e) (memS b e)) E x = q (memS a x) (memS b x) := by
  have low : (∀ e ∈ E, x < e) → inP (fun e => q (memS a e) (memS b e)) E x = q (memS a x) (memS b x) := fun hlow => by
    have key : ∀ l : List S32, (∀ s ∈ l, s ∈ a ∨ s ∈ b) → memS l x = false := fun l hl => by
      rw [← Bool.not_eq_true, memS_iff]
      rintro ⟨s, hs, hsx⟩
      have := hlow _ (hE s (hl s hs)).1
      omega
    rw [inP_low _ E x hlow, key a (fun s hs => .inl hs), key b (fun s hs => .inr hs), hq]
  rcases E with _ | ⟨e, t⟩
  · exact low (fun e he => absurd he (by simp))
  · by_cases hx : e ≤ x
    · exact inP_floor q hq a b (e :: t) hp (by simp) (fun s hs => ⟨.inl (hE s hs).1, .inl (hE s hs).2⟩) x ⟨e, by simp, hx⟩
    · refine low (fun z hz => ?_)
      rcases List.mem_cons.1 hz with rfl | hz
      · omega
      · have := (List.pairwise_cons.1 hp).1 z hz
        omega
def keepsB (kind : Int) (a b : Bool) : Bool := if kind = 0 then a || b else if kind = 1 then a && b else a && !b
theorem keeps_f (kind : Int) (a b : Bool) : kimberliteref01_keeps.f kind a b = some (keepsB kind a b) := by
  unfold kimberliteref01_keeps.f keepsB
  cases a <;> cases b <;> by_cases h0 : kind = 0 <;> by_cases h1 : kind = 1 <;> simp [h0, h1]
theorem keepsB_ff (kind : Int) : keepsB kind false false = false := by
  unfold keepsB
  by_cases h0 : kind = 0 <;> by_cases h1 : kind = 1 <;> simp [h0, h1]
end Go.Proofs.Ytningpmoojnomaa.Pr
end
section
namespace Go.Proofs.Ytningpmoojnomaa.Pr
open Go.RowKit Go.Proofs.YtningpmoojnomaaW.PrintWords Go.Proofs.YtningpmoojnomaaW.PrintLast Go.Proofs.YtningpmoojnomaaW.PrintMore
set_option linter.unusedVariables false
set_option linter.unusedSimpArgs false
def keepP (kind : Int) (a b : List S32) (e : Int) : Bool := keepsB kind (memS a e) (memS b e)
theorem drop2 (E : List Int) (i : Nat) (h : i + 1 < E.length) : E.drop i = rd E (i : Int) :: rd E ((i + 1 : Nat) : Int) :: E.drop (i + 2) := by
  rw [dropI E i (by omega), dropI E (i + 1) h]
theorem gen_short (p : Int → Bool) (E : List Int) (cur : Option S32) (h : E.length ≤ 1) : gen p E cur = cur.toList := by
  rcases E with _ | ⟨e, _ | ⟨e', t⟩⟩
  · simp [gen]
  · simp [gen]
  · simp at h
theorem made_l2 (kind : Int) (a b : List S32) (ha : a.length ≤ 1000) (hb : b.length ≤ 1000) (E : List Int) (hE : E.length ≤ 1000000) : ∀ (d i : Nat), E.length - i = d → i ≤ E.length →
    Ev (fun k => kimberliteref01_Made.l2 k kind a b E [] (i : Int)) (gen (keepP kind a b) (E.drop i) none) ∧
    ∀ (p : List S32) (c : S32), p.length + 1 ≤ i → Ev (fun k => kimberliteref01_Made.l2 k kind a b E (p ++ [c]) (i : Int)) (p ++ gen (keepP kind a b) (E.drop i) (some c))
  | d, i, h, hi' => by
    by_cases hi : i + 1 < E.length
    · match d, h with
      | 0, h => omega
      | d + 1, h =>
        obtain ⟨ihn, ihs⟩ := made_l2 kind a b ha hb E hE d (i + 1) (by omega) (by omega)
        have hw := wrap_succ (i := i) (n := E.length) (by omega) (by omega)
        rw [drop2 E i hi]
        rw [dropI E (i + 1) hi] at ihn ihs
        have kp : keepsB kind (memS a (rd E (i : Int))) (memS b (rd E (i : Int))) = keepP kind a b (rd E (i : Int)) := rfl
        constructor
        · refine Ev.step (f := fun k => (kimberliteref01_in.f k a (rd E (i : Int))).bind fun t195 => ((kimberliteref01_in.f k b (rd E (i : Int))).bind fun t197 => ((kimberliteref01_keeps.f kind t195 t197).bind fun t198 => (if t198 = true then kimberliteref01_Made.l2 k kind a b E ([⟨rd E (i : Int), rd E ((i + 1 : Nat) : Int)⟩]) ((i + 1 : Nat) : Int) else kimberliteref01_Made.l2 k kind a b E [] ((i + 1 : Nat) : Int))))) (fun k => ?_) ?_
          · simp only [kimberliteref01_Made.l2]
            rw [hw, if_pos (by omega), if_pos (by omega), if_pos (by omega)]
            simp
            rfl
          · refine Ev.bind (refIn_ev a _ (by omega)) (Ev.bind (refIn_ev b _ (by omega)) ?_)
            show Ev (fun k => (kimberliteref01_keeps.f kind (memS a (rd E (i : Int))) (memS b (rd E (i : Int)))).bind _) _
            rw [keeps_f, kp, gen]
            simp only [Option.bind_some]
            by_cases hk : keepP kind a b (rd E (i : Int)) = true
            · simp only [if_pos hk]
              exact ihs [] _ (by simp)
            · simp only [if_neg hk]
              exact ihn
        · intro p c hp
          have hl := len_last p c (by omega)
          have hlen : (((p ++ [c]).length : Nat) : Int) = (p.length : Int) + 1 := by simp
          refine Ev.step (f := fun k => (kimberliteref01_in.f k a (rd E (i : Int))).bind fun t195 => ((kimberliteref01_in.f k b (rd E (i : Int))).bind fun t197 => ((kimberliteref01_keeps.f kind t195 t197).bind fun t198 => (if t198 = true then (if c.f1 = rd E (i : Int) then kimberliteref01_Made.l2 k kind a b E (p ++ [⟨c.f0, rd E ((i + 1 : Nat) : Int)⟩]) ((i + 1 : Nat) : Int) else kimberliteref01_Made.l2 k kind a b E (p ++ [c] ++ [⟨rd E (i : Int), rd E ((i + 1 : Nat) : Int)⟩]) ((i + 1 : Nat) : Int)) else kimberliteref01_Made.l2 k kind a b E (p ++ [c]) ((i + 1 : Nat) : Int))))) (fun k => ?_) ?_
          · simp only [kimberliteref01_Made.l2]
            rw [hw, if_pos (by omega), if_pos (by omega), if_pos (by omega), hl, rd_last, Int.toNat_natCast, set_last]
            rw [if_pos (show (((p ++ [c]).length : Nat) : Int) > 0 by omega), if_pos (show (0 : Int) ≤ (p.length : Int) by omega), if_pos (show ((p.length : Nat) : Int) < ((p ++ [c]).length : Nat) by omega), if_pos (show (0 : Int) ≤ ((i + 1 : Nat) : Int) by omega), if_pos (show (0 : Int) ≤ ((i + 1 : Nat) : Int) by omega), if_pos (show (p ++ [c]).length < 8796093022208 by omega)]
          · refine Ev.bind (refIn_ev a _ (by omega)) (Ev.bind (refIn_ev b _ (by omega)) ?_)
            show Ev (fun k => (kimberliteref01_keeps.f kind (memS a (rd E (i : Int))) (memS b (rd E (i : Int)))).bind _) _
            rw [keeps_f, kp, gen]
            simp only [Option.bind_some]
            by_cases hk : keepP kind a b (rd E (i : Int)) = true
            · simp only [if_pos hk]
              by_cases hc : c.f1 = rd E (i : Int)
              · simp only [if_pos hc]
                exact ihs p _ (by omega)
              · simp only [if_neg hc]
                have := ihs (p ++ [c]) ⟨rd E (i : Int), rd E ((i + 1 : Nat) : Int)⟩ (by simp; omega)
                rw [List.append_assoc p [c] (gen _ _ _), List.singleton_append] at this
                exact this
            · simp only [if_neg hk]
              exact ihs p c (by omega)
    · have hs : (E.drop i).length ≤ 1 := by rw [List.length_drop]; omega
      have hw : ¬ wrap64 ((i : Int) + 1) < (E.length : Int) := by unfold wrap64; omega
      rw [gen_short _ _ _ hs]
      refine ⟨Ev.step (f := fun _ => some []) (fun k => by simp only [kimberliteref01_Made.l2]; rw [if_neg hw]) (Ev.now _), fun p c hp => ?_⟩
      rw [gen_short _ _ _ hs]
      exact Ev.step (f := fun _ => some (p ++ [c])) (fun k => by simp only [kimberliteref01_Made.l2]; rw [if_neg hw]) (Ev.now _)
/-- The ends of two lists of spans, ascending. -/
def ends2 (a b : List S32) : List Int := endsL (endsL [] a) b
def madeL (kind : Int) (a b : List S32) : List S32 := gen (keepP kind a b) (ends2 a b) none
theorem made_ev (kind : Int) (a b : List S32) (ha : a.length ≤ 1000) (hb : b.length ≤ 1000) : Ev (fun k => kimberliteref01_Made.f k kind a b) (madeL kind a b) := by
  obtain ⟨p1, m1, n1⟩ := endsL_spec a [] List.Pairwise.nil
  obtain ⟨p2, m2, n2⟩ := endsL_spec b _ p1
  have e2 := (made_l2 kind a b ha hb (ends2 a b) (by unfold ends2; simp at n1; omega) _ 0 rfl (by omega)).1
  refine made_l0 kind a b _ ha _ 0 [] rfl List.Pairwise.nil (by simp) (by simp) ?_
  refine made_l1 kind a b _ hb (2 * a.length) (by omega) _ 0 _ rfl p1 (by simpa using n1) (by omega) ?_
  exact e2
/-- WHAT MADE IS: ascending, with the numbers that the kind keeps. -/
theorem made_spec (kind : Int) (a b : List S32) (hv : ∀ s, s ∈ a ∨ s ∈ b → -1099511627776 ≤ s.f0 ∧ s.f0 < s.f1 ∧ s.f1 ≤ 1099511627776) :
    Asc (-1099511627776) (madeL kind a b) ∧ ∀ x, memS (madeL kind a b) x = keepsB kind (memS a x) (memS b x) := by
  obtain ⟨p1, m1, n1⟩ := endsL_spec a [] List.Pairwise.nil
  obtain ⟨p2, m2, n2⟩ := endsL_spec b _ p1
  have hin : ∀ z ∈ ends2 a b, -1099511627776 ≤ z ∧ z ≤ 1099511627776 := fun z hz => by
    rcases (m2 z).1 hz with hz | ⟨s, hs, hz⟩
    · rcases (m1 z).1 hz with hz | ⟨s, hs, hz⟩
      · cases hz
      · have := hv s (.inl hs); rcases hz with rfl | rfl <;> omega
    · have := hv s (.inr hs); rcases hz with rfl | rfl <;> omega
  obtain ⟨ha, hm⟩ := gen_spec (keepP kind a b) (ends2 a b) none (-1099511627776) p2 hin (fun c hc => by cases hc)
  refine ⟨ha, fun x => ?_⟩
  show memS (gen _ _ none) x = _
  rw [hm x]
  have := inP_ends (keepsB kind) (keepsB_ff kind) a b (fun s hs => (hv s hs).2.1) (ends2 a b) p2 (fun s hs => by
    rcases hs with hs | hs
    · exact ⟨(m2 _).2 (.inl ((m1 _).2 (.inr ⟨s, hs, .inl rfl⟩))), (m2 _).2 (.inl ((m1 _).2 (.inr ⟨s, hs, .inr rfl⟩)))⟩
    · exact ⟨(m2 _).2 (.inr ⟨s, hs, .inl rfl⟩), (m2 _).2 (.inr ⟨s, hs, .inr rfl⟩)⟩) x
  simp only [Option.toList_none]
  rw [show memS [] x = false from rfl, Bool.false_or]
  exact this
end Go.Proofs.Ytningpmoojnomaa.Pr
end
section
namespace Go.Proofs.Ytningpmoojnomaa.Pr
open Go.RowKit Go.Proofs.YtningpmoojnomaaW.PrintWords Go.Proofs.YtningpmoojnomaaW.PrintLast Go.Proofs.YtningpmoojnomaaW.PrintMore
set_option linter.unusedVariables false
set_option linter.unusedSimpArgs false
theorem compactUpTo_spec (S : List Int) (h : S.Pairwise (· ≤ ·)) : ∀ m, m ≤ S.length → (Lib.compactUpTo S.toArray m).Pairwise (· < ·) ∧ (∀ z, z ∈ Lib.compactUpTo S.toArray m ↔ ∃ j, ∃ hj : j < m, ∃ hs : j < S.length, z = S[j]) ∧ (Lib.compactUpTo S.toArray m).length ≤ m
  | 0, _ => by simp [Lib.compactUpTo]
  | m + 1, hm => by
    obtain ⟨ih1, ih2, ih3⟩ := compactUpTo_spec S h m (by omega)
    have hmS : m < S.length := by omega
    have em : S.toArray[m]! = S[m] := by rw [getElem!_pos S.toArray m (by simpa using hmS)]; simp
    rw [Lib.compactUpTo_succ, em]
    by_cases hk : Lib.keeps S.toArray m = true
    · rw [if_pos hk]
      refine ⟨?_, fun z => ?_, by simp; omega⟩
      · rw [List.pairwise_append]
        refine ⟨ih1, by simp, fun x hx y hy => ?_⟩
        rw [List.mem_singleton] at hy
        subst hy
        obtain ⟨j, hj, hs, rfl⟩ := (ih2 x).1 hx
        have hle : S[j] ≤ S[m - 1] := by
          rcases Nat.lt_or_ge j (m - 1) with hlt | hge
          · exact (List.pairwise_iff_getElem.1 h) j (m - 1) hs (by omega) hlt
          · have : j = m - 1 := by omega
            subst this
            exact Int.le_refl _
        have hle2 : S[m - 1] ≤ S[m] := (List.pairwise_iff_getElem.1 h) (m - 1) m (by omega) hmS (by omega)
        have hne : S[m] ≠ S[m - 1] := by
          unfold Lib.keeps at hk
          rw [decide_eq_true_eq] at hk
          rcases hk with h0 | h0
          · omega
          · rw [em, getElem!_pos S.toArray (m - 1) (by simp; omega)] at h0
            simpa using h0
        omega
      · rw [List.mem_append, ih2 z, List.mem_singleton]
        constructor
        · rintro (⟨j, hj, hs, rfl⟩ | rfl)
          · exact ⟨j, by omega, hs, rfl⟩
          · exact ⟨m, by omega, hmS, rfl⟩
        · rintro ⟨j, hj, hs, rfl⟩
          rcases Nat.lt_or_ge j m with hlt | hge
          · exact .inl ⟨j, hlt, hs, rfl⟩
          · have : j = m := by omega
            subst this
            exact .inr rfl
    · rw [if_neg hk, List.append_nil]
      refine ⟨ih1, fun z => ?_, by omega⟩
      have hno : ¬ (m = 0 ∨ S.toArray[m]! ≠ S.toArray[m - 1]!) := fun hc => hk (by unfold Lib.keeps; exact decide_eq_true hc)
      have h0 : m ≠ 0 := fun hc => hno (.inl hc)
      have he : S[m] = S[m - 1] := by
        have := Decidable.not_not.1 (fun hc => hno (.inr hc))
        rw [em, getElem!_pos S.toArray (m - 1) (by simp; omega)] at this
        simpa using this
      rw [ih2 z]
      constructor
      · rintro ⟨j, hj, hs, rfl⟩
        exact ⟨j, by omega, hs, rfl⟩
      · rintro ⟨j, hj, hs, rfl⟩
        rcases Nat.lt_or_ge j m with hlt | hge
        · exact ⟨j, hlt, hs, rfl⟩
        · have : j = m := by omega
          subst this
          exact ⟨j - 1, by omega, by omega, he⟩
theorem compact_spec (S : List Int) (h : S.Pairwise (· ≤ ·)) : (Lib.compact S).Pairwise (· < ·) ∧ (∀ z, z ∈ Lib.compact S ↔ z ∈ S) ∧ (Lib.compact S).length ≤ S.length := by
  obtain ⟨h1, h2, h3⟩ := compactUpTo_spec S h S.length (Nat.le_refl _)
  refine ⟨h1, fun z => ?_, h3⟩
  show z ∈ Lib.compactUpTo S.toArray S.length ↔ _
  rw [h2 z, List.mem_iff_getElem]
  constructor
  · rintro ⟨j, hj, hs, rfl⟩
    exact ⟨j, hs, rfl⟩
  · rintro ⟨j, hs, rfl⟩
    exact ⟨j, hs, hs, rfl⟩
def flatS (l : List S32) : List Int := l.flatMap (fun s => [s.f0, s.f1])
def cutsAt (a b : List S32) : Nat → List Int
  | 0 => [-1099511627776, 1099511627776]
  | 1 => [-1099511627776, 1099511627776] ++ flatS a
  | _ => [-1099511627776, 1099511627776] ++ flatS a ++ flatS b
theorem flat_succ (l : List S32) (i : Nat) (h : i < l.length) : flatS (l.take (i + 1)) = flatS (l.take i) ++ [(l.getD i z32).f0, (l.getD i z32).f1] := by
  unfold flatS
  rw [List.take_succ_eq_append_getElem h, List.flatMap_append]
  simp [List.getD_eq_getElem?_getD, List.getElem?_eq_getElem h]
theorem flat_len : ∀ l : List S32, (flatS l).length = 2 * l.length
  | [] => rfl
  | s :: t => by
    have := flat_len t
    rw [show flatS (s :: t) = [s.f0, s.f1] ++ flatS t from rfl, List.length_append, this]
    simp
    omega
theorem mem_flat (l : List S32) (z : Int) : z ∈ flatS l ↔ ∃ s ∈ l, z = s.f0 ∨ z = s.f1 := by
  unfold flatS
  rw [List.mem_flatMap]
  simp
def cutsE (a b : List S32) : List Int := Lib.compact ((cutsAt a b 2).mergeSort fun x y => decide (x ≤ y))
theorem cutsE_spec (a b : List S32) : (cutsE a b).Pairwise (· < ·) ∧ (∀ z, z ∈ cutsE a b ↔ z = -1099511627776 ∨ z = 1099511627776 ∨ ∃ s, (s ∈ a ∨ s ∈ b) ∧ (z = s.f0 ∨ z = s.f1)) ∧ (cutsE a b).length ≤ 2 + 2 * a.length + 2 * b.length := by
  have hs : ((cutsAt a b 2).mergeSort fun x y => decide (x ≤ y)).Pairwise (· ≤ ·) := by
    have := List.pairwise_mergeSort (le := fun x y : Int => decide (x ≤ y)) (fun a b c h1 h2 => by simp at *; omega) (fun a b => by simp; omega) (cutsAt a b 2)
    exact this.imp (fun h => by simpa using h)
  obtain ⟨h1, h2, h3⟩ := compact_spec _ hs
  refine ⟨h1, fun z => ?_, ?_⟩
  · show z ∈ Lib.compact _ ↔ _
    rw [h2 z, List.mem_mergeSort]
    show z ∈ [-1099511627776, 1099511627776] ++ flatS a ++ flatS b ↔ _
    rw [List.mem_append, List.mem_append, mem_flat, mem_flat]
    simp only [List.mem_cons, List.not_mem_nil, or_false]
    constructor
    · rintro (((h | h) | ⟨s, hs, h⟩) | ⟨s, hs, h⟩)
      · exact .inl h
      · exact .inr (.inl h)
      · exact .inr (.inr ⟨s, .inl hs, h⟩)
      · exact .inr (.inr ⟨s, .inr hs, h⟩)
    · rintro (h | h | ⟨s, hs | hs, h⟩)
      · exact .inl (.inl (.inl h))
      · exact .inl (.inl (.inr h))
      · exact .inl (.inr ⟨s, hs, h⟩)
      · exact .inr ⟨s, hs, h⟩
  · rw [List.length_mergeSort] at h3
    refine Nat.le_trans h3 ?_
    show ([-1099511627776, 1099511627776] ++ flatS a ++ flatS b).length ≤ _
    rw [List.length_append, List.length_append, flat_len, flat_len]
    simp
abbrev PieceT := S32 × (Bool × Bool)
def pieceAt (a b : List S32) (E : List Int) (i : Nat) : PieceT := (⟨rd E (i : Int), rd E ((i + 1 : Nat) : Int)⟩, (memS a (rd E (i : Int)), memS b (rd E (i : Int))))
def upTo (a b : List S32) (E : List Int) (n : Nat) : List PieceT := (List.range n).map (pieceAt a b E)
def piecesL (a b : List S32) : List PieceT := upTo a b (cutsE a b) ((cutsE a b).length - 1)
theorem upTo_succ (a b : List S32) (E : List Int) (n : Nat) : upTo a b E (n + 1) = upTo a b E n ++ [pieceAt a b E n] := by
  unfold upTo
  rw [List.range_succ, List.map_append]
  rfl
theorem upTo_len (a b : List S32) (E : List Int) (n : Nat) : (upTo a b E n).length = n := by simp [upTo]
/-- The pieces of a list of cuts. -/
def pcs (a b : List S32) : List Int → List PieceT
  | e :: e' :: t => (⟨e, e'⟩, (memS a e, memS b e)) :: pcs a b (e' :: t)
  | _ => []
theorem upTo_from (a b : List S32) (E : List Int) : ∀ (d i : Nat), E.length - 1 - i = d → (List.range' i d).map (pieceAt a b E) = pcs a b (E.drop i)
  | 0, i, h => by
    rcases hd : E.drop i with _ | ⟨e, _ | ⟨e', t⟩⟩
    · rfl
    · rfl
    · have := congrArg List.length hd
      simp at this
      omega
  | d + 1, i, h => by
    rw [List.range'_succ, List.map_cons, upTo_from a b E d (i + 1) (by omega), drop2 E i (by omega), pcs, dropI E (i + 1) (by omega)]
    rfl
theorem piecesL_eq (a b : List S32) : piecesL a b = pcs a b (cutsE a b) := by
  have := upTo_from a b (cutsE a b) _ 0 rfl
  unfold piecesL upTo
  rw [List.range_eq_range']
  simpa using this
/-- What a rule chooses. -/
def chz (q : Bool → Bool → Bool) (l : List PieceT) : List S32 := (l.filter (fun p => q p.2.1 p.2.2)).map (fun p => p.1)
theorem chz_snoc (q : Bool → Bool → Bool) (l : List PieceT) (x : PieceT) : chz q (l ++ [x]) = if q x.2.1 x.2.2 = true then chz q l ++ [x.1] else chz q l := by
  unfold chz
  rw [List.filter_append, List.map_append]
  by_cases h : q x.2.1 x.2.2 = true
  · rw [if_pos h]; simp [h]
  · rw [if_neg h]; simp [h]
theorem chz_len (q : Bool → Bool → Bool) (l : List PieceT) : (chz q l).length ≤ l.length := by
  unfold chz
  rw [List.length_map]
  exact List.length_filter_le _ _
theorem chz_mem (q : Bool → Bool → Bool) (a b : List S32) : ∀ (E : List Int) (x : Int), memS (chz q (pcs a b E)) x = inP (fun e => q (memS a e) (memS b e)) E x
  | [], _ => rfl
  | [_], _ => rfl
  | e :: e' :: t, x => by
    have ih := chz_mem q a b (e' :: t) x
    rw [pcs, inP, ← ih]
    unfold chz
    rw [List.filter_cons]
    by_cases h : q (memS a e) (memS b e) = true
    · rw [if_pos h, List.map_cons, memS_cons, h, Bool.true_and]
      rfl
    · rw [if_neg h, Bool.eq_false_iff.2 h, Bool.false_and, Bool.false_or]
theorem chz_low (q : Bool → Bool → Bool) (a b : List S32) : ∀ (E : List Int) (lo hi : Int), E.Pairwise (· < ·) → (∀ e ∈ E, lo ≤ e ∧ e ≤ hi) → (chz q (pcs a b E)).Pairwise (fun x y => x.f0 ≤ y.f0) ∧ ∀ s ∈ chz q (pcs a b E), lo ≤ s.f0 ∧ s.f0 < s.f1 ∧ s.f1 ≤ hi
  | [], _, _, _, _ => by simp [pcs, chz]
  | [_], _, _, _, _ => by simp [pcs, chz]
  | e :: e' :: t, lo, hi, hp, hE => by
    rw [List.pairwise_cons] at hp
    have h0 := hE e (List.mem_cons_self)
    have h1 := hE e' (List.mem_cons_of_mem _ List.mem_cons_self)
    have hlt := hp.1 e' List.mem_cons_self
    obtain ⟨ip, im⟩ := chz_low q a b (e' :: t) e' hi hp.2 (fun z hz => ⟨by
      rcases List.mem_cons.1 hz with rfl | hz
      · exact Int.le_refl _
      · have := (List.pairwise_cons.1 hp.2).1 z hz
        exact Int.le_of_lt this, (hE z (List.mem_cons_of_mem _ hz)).2⟩)
    have hstep : chz q (pcs a b (e :: e' :: t)) = if q (memS a e) (memS b e) = true then ⟨e, e'⟩ :: chz q (pcs a b (e' :: t)) else chz q (pcs a b (e' :: t)) := by
      rw [pcs]
      unfold chz
      rw [List.filter_cons]
      by_cases h : q (memS a e) (memS b e) = true
      · rw [if_pos h, if_pos h]; rfl
      · rw [if_neg h, if_neg h]
    rw [hstep]
    by_cases h : q (memS a e) (memS b e) = true
    · rw [if_pos h]
      refine ⟨?_, fun s hs => ?_⟩
      · rw [List.pairwise_cons]
        exact ⟨fun s hs => by have := im s hs; simp only; omega, ip⟩
      · rcases List.mem_cons.1 hs with rfl | hs
        · exact ⟨h0.1, hlt, h1.2⟩
        · have := im s hs; omega
    · rw [if_neg h]
      exact ⟨ip, fun s hs => by have := im s hs; omega⟩
theorem inP_congr (p p' : Int → Bool) : ∀ (E : List Int) (hi : Int), E.Pairwise (· < ·) → (∀ e ∈ E, e ≤ hi) → (∀ e ∈ E, e < hi → p e = p' e) → ∀ x, inP p E x = inP p' E x
  | [], _, _, _, _, _ => rfl
  | [_], _, _, _, _, _ => rfl
  | e :: e' :: t, hi, hp, hE, h, x => by
    rw [List.pairwise_cons] at hp
    have hlt := hp.1 e' List.mem_cons_self
    have h1 := hE e' (List.mem_cons_of_mem _ List.mem_cons_self)
    rw [inP, inP, h e List.mem_cons_self (by omega), inP_congr p p' (e' :: t) hi hp.2 (fun z hz => hE z (List.mem_cons_of_mem _ hz)) (fun z hz hl => h z (List.mem_cons_of_mem _ hz) hl) x]
theorem valid_gd {l : List S32} (h : validS l = true) : ∀ s ∈ l, -1099511627776 ≤ s.f0 ∧ s.f0 < s.f1 ∧ s.f1 ≤ 1099511627776 := by
  have key : ∀ (l : List S32) (lo : Int), -1099511627776 ≤ lo → Asc lo l → ∀ s ∈ l, -1099511627776 ≤ s.f0 ∧ s.f0 < s.f1 ∧ s.f1 ≤ 1099511627776 := by
    intro l
    induction l with
    | nil => intro lo _ _ s hs; cases hs
    | cons y t ih =>
      rintro lo hlo ⟨h1, h2, h3, h4⟩ s hs
      rcases List.mem_cons.1 hs with rfl | hs
      · omega
      · exact ih _ (by omega) h4 s hs
  exact key l _ (Int.le_refl _) (asc_valid h).2
/-- In an ascending list the first span that ends behind a number tells whether the number is there. -/
theorem asc_first : ∀ (l : List S32) (lo x : Int) (i : Nat), Asc lo l → (∀ j, j < i → (l.getD j z32).f1 ≤ x) → (i < l.length → x < (l.getD i z32).f1) → memS l x = (decide (i < l.length) && decide ((l.getD i z32).f0 ≤ x))
  | [], lo, x, i, _, _, _ => by simp [memS]
  | s :: t, lo, x, 0, ⟨h1, h2, h3, h4⟩, _, hi => by
    have hx : x < s.f1 := by simpa using hi (by simp)
    have ht : memS t x = false := by
      rw [← Bool.not_eq_true]
      intro hc
      have := asc_low _ _ _ h4 hc
      omega
    rw [memS_cons, ht, Bool.or_false]
    unfold hasS
    simp [hx]
  | s :: t, lo, x, i + 1, ⟨h1, h2, h3, h4⟩, hb, hi => by
    have h0 : s.f1 ≤ x := by simpa using hb 0 (by omega)
    have := asc_first t _ x i h4 (fun j hj => by simpa using hb (j + 1) (by omega)) (fun hl => by simpa using hi (by simpa using hl))
    rw [memS_cons, this]
    have hs : hasS x s = false := by unfold hasS; simp; omega
    rw [hs, Bool.false_or]
    simp
/-- The plain answer of Union (0), Intersect (1) and Subtract (2), of both. -/
def twoR (kind : Int) (a b : List S32) : List S32 × Int := if validS a && validS b then (if (madeL kind a b).length > 128 then ([], 8) else (madeL kind a b, 0)) else ([], 2)
def wholeS : S32 := ⟨-1099511627776, 1099511627776⟩
theorem jn_chz (q : Bool → Bool → Bool) (a b : List S32) (ha : validS a = true) (hb : validS b = true) : Asc (-1099511627776) (jn (chz q (piecesL a b)) none) ∧ ∀ x, memS (jn (chz q (piecesL a b)) none) x = inP (fun e => q (memS a e) (memS b e)) (cutsE a b) x := by
  obtain ⟨e1, e2, e3⟩ := cutsE_spec a b
  have hE : ∀ e ∈ cutsE a b, -1099511627776 ≤ e ∧ e ≤ 1099511627776 := fun e he => by
    rcases (e2 e).1 he with rfl | rfl | ⟨s, hs, h⟩
    · omega
    · omega
    · have : -1099511627776 ≤ s.f0 ∧ s.f0 < s.f1 ∧ s.f1 ≤ 1099511627776 := hs.elim (valid_gd ha s) (valid_gd hb s)
      rcases h with rfl | rfl <;> omega
  obtain ⟨l1, l2⟩ := chz_low q a b (cutsE a b) _ _ e1 hE
  rw [piecesL_eq]
  obtain ⟨j1, j2⟩ := jn_spec _ none (-1099511627776) l1 l2 (fun c hc => by cases hc)
  refine ⟨j1, fun x => ?_⟩
  rw [j2 x, chz_mem]
  rfl
theorem chosen_made (kind : Int) (a b : List S32) (ha : validS a = true) (hb : validS b = true) : jn (chz (keepsB kind) (piecesL a b)) none = madeL kind a b := by
  obtain ⟨j1, j2⟩ := jn_chz (keepsB kind) a b ha hb
  obtain ⟨e1, e2, e3⟩ := cutsE_spec a b
  have hg : ∀ s, s ∈ a ∨ s ∈ b → -1099511627776 ≤ s.f0 ∧ s.f0 < s.f1 ∧ s.f1 ≤ 1099511627776 := fun s hs => hs.elim (valid_gd ha s) (valid_gd hb s)
  obtain ⟨m1, m2⟩ := made_spec kind a b hg
  refine canon _ _ _ _ j1 m1 (fun x => ?_)
  rw [j2 x, m2 x]
  exact inP_ends (keepsB kind) (keepsB_ff kind) a b (fun s hs => (hg s hs).2.1) _ e1 (fun s hs => ⟨(e2 _).2 (.inr (.inr ⟨s, hs, .inl rfl⟩)), (e2 _).2 (.inr (.inr ⟨s, hs, .inr rfl⟩))⟩) x
theorem chosen_not (a : List S32) (ha : validS a = true) : jn (chz (fun x _ => !x) (piecesL a [])) none = madeL 2 [wholeS] a := by
  obtain ⟨j1, j2⟩ := jn_chz (fun x _ => !x) a [] ha rfl
  obtain ⟨e1, e2, e3⟩ := cutsE_spec a []
  have hg : ∀ s, s ∈ [wholeS] ∨ s ∈ a → -1099511627776 ≤ s.f0 ∧ s.f0 < s.f1 ∧ s.f1 ≤ 1099511627776 := fun s hs => by
    rcases hs with hs | hs
    · rw [List.mem_singleton] at hs
      subst hs
      show (-1099511627776 : Int) ≤ -1099511627776 ∧ (-1099511627776 : Int) < 1099511627776 ∧ (1099511627776 : Int) ≤ 1099511627776
      omega
    · exact valid_gd ha s hs
  have hE : ∀ e ∈ cutsE a [], -1099511627776 ≤ e ∧ e ≤ 1099511627776 := fun e he => by
    rcases (e2 e).1 he with rfl | rfl | ⟨s, hs, h⟩
    · omega
    · omega
    · rcases hs with hs | hs
      · have := valid_gd ha s hs
        rcases h with rfl | rfl <;> omega
      · cases hs
  obtain ⟨m1, m2⟩ := made_spec 2 [wholeS] a hg
  refine canon _ _ _ _ j1 m1 (fun x => ?_)
  rw [j2 x, m2 x]
  rw [inP_congr _ (fun e => keepsB 2 (memS [wholeS] e) (memS a e)) (cutsE a []) 1099511627776 e1 (fun e he => (hE e he).2) (fun e he hl => by
    have h0 := (hE e he).1
    have : memS [wholeS] e = true := by rw [memS_iff]; exact ⟨wholeS, List.mem_singleton.2 rfl, h0, hl⟩
    rw [this]
    simp [keepsB]) x]
  refine inP_ends (keepsB 2) (keepsB_ff 2) [wholeS] a (fun s hs => (hg s hs).2.1) _ e1 (fun s hs => ?_) x
  rcases hs with hs | hs
  · rw [List.mem_singleton] at hs
    subst hs
    exact ⟨(e2 _).2 (.inl rfl), (e2 _).2 (.inr (.inl rfl))⟩
  · exact ⟨(e2 _).2 (.inr (.inr ⟨s, .inl hs, .inl rfl⟩)), (e2 _).2 (.inr (.inr ⟨s, .inl hs, .inr rfl⟩))⟩
theorem validS_whole : validS [wholeS] = true := by decide
theorem refTwo_ev (kind : Int) (a b : List S32) (ha : a.length ≤ 9223372036854775807) (hb : b.length ≤ 9223372036854775807) : Ev (fun k => kimberliteref01_Two.f k kind a b) (twoR kind a b) := by
  have bad : ∀ c : Bool, c = true → (validS a && validS b) = false → Ev (fun k => kimberliteref01_Two.j0 k kind a b c) (twoR kind a b) := fun c hc hv => by
    unfold twoR
    rw [hv, hc]
    exact Ev.step (f := fun _ => some ([], 2)) (fun k => by simp only [kimberliteref01_Two.j0]; rw [if_pos trivial]) (Ev.now _)
  have good : validS a = true → validS b = true → Ev (fun k => kimberliteref01_Two.j0 k kind a b false) (twoR kind a b) := fun h1 h2 => by
    unfold twoR
    rw [h1, h2]
    simp only [Bool.and_self, if_true]
    have l1 := (asc_valid h1).1
    have l2 := (asc_valid h2).1
    refine Ev.step (f := fun k => (kimberliteref01_Made.f k kind a b).bind fun t => if (t.length : Int) > 128 then some (([] : List S32), (8 : Int)) else some (t, 0)) (fun k => by simp only [kimberliteref01_Two.j0]; rw [if_neg (by simp)]) ?_
    refine Ev.bind (made_ev kind a b (by omega) (by omega)) ?_
    by_cases hc : (madeL kind a b).length > 128
    · rw [if_pos hc]
      simp only [if_pos (show ((madeL kind a b).length : Int) > 128 by omega)]
      exact Ev.now _
    · rw [if_neg hc]
      simp only [if_neg (show ¬ ((madeL kind a b).length : Int) > 128 by omega)]
      exact Ev.now _
  unfold kimberliteref01_Two.f
  refine Ev.bind (refValid_ev a ha) ?_
  cases h1 : validS a with
  | false =>
    simp only [Bool.false_eq_true, if_false]
    exact bad true rfl (by rw [h1]; rfl)
  | true =>
    simp only [if_true]
    refine Ev.bind (refValid_ev b hb) ?_
    cases h2 : validS b with
    | false => exact bad _ rfl (by rw [h1, h2]; rfl)
    | true => exact good h1 h2
def notR (a : List S32) : List S32 × Int := twoR 2 [wholeS] a
theorem refNot_ev (a : List S32) (ha : a.length ≤ 9223372036854775807) : Ev (fun k => kimberliteref01_Not.f k a) (notR a) := by
  unfold kimberliteref01_Not.f kimberliteref01_Whole.f
  refine Ev.bind (Ev.now _) ?_
  exact Ev.bind (refTwo_ev 2 [wholeS] a (by simp) ha) (Ev.now _)
/-- What the program's rule comes to. -/
theorem prog_two (kind : Int) (a b : List S32) (h : (validS a && validS b) = true) : twoR kind a b = if (jn (chz (keepsB kind) (piecesL a b)) none).length > 128 then ([], 8) else (jn (chz (keepsB kind) (piecesL a b)) none, 0) := by
  unfold twoR
  rw [h]
  simp only [if_true]
  rw [Bool.and_eq_true] at h
  rw [chosen_made kind a b h.1 h.2]
theorem prog_not (a : List S32) (h : validS a = true) : notR a = if (jn (chz (fun x _ => !x) (piecesL a [])) none).length > 128 then ([], 8) else (jn (chz (fun x _ => !x) (piecesL a [])) none, 0) := by
  unfold notR twoR
  rw [validS_whole, h]
  simp only [Bool.and_self, if_true]
  rw [chosen_not a h]
end Go.Proofs.Ytningpmoojnomaa.Pr
end
section
namespace Go.Proofs.Ytningpmoojnomaa.Pr
open Go.RowKit Go.Sort Go.Proofs.YtningpmoojnomaaW.PrintWords Go.Proofs.YtningpmoojnomaaW.PrintLast Go.Proofs.YtningpmoojnomaaW.PrintMore
set_option linter.unusedVariables false
set_option linter.unusedSimpArgs false
def RowI (w : World) (base : Nat) (v : Value) (l : List Int) : Prop := w.ownsRow base 3 1 v l.length (l.map (Value.int .i64))
theorem row_slice {w : World} {base : Nat} {v : Value} {l : List Int} (h : RowI w base v l) : ∃ A c, v = .slice A l.length c := by
  rcases h.2 with ⟨rfl, h0⟩ | ⟨g, cap, cur, rfl, _⟩
  · exact ⟨none, 0, by simp at h0; simp [h0]⟩
  · exact ⟨_, _, rfl⟩
theorem row_base {w : World} {base : Nat} {v : Value} {l : List Int} (h : RowI w base v l) : ∀ k, v.ownBlock = some k → base ≤ k := by
  rcases h.2 with ⟨rfl, h0⟩ | ⟨g, cap, cur, rfl, hb, _⟩
  · intro k hk; simp [Value.ownBlock] at hk
  · intro k hk; simp [Value.ownBlock] at hk; omega
theorem row_snoc2 {w : World} {base : Nat} {v : Value} {l : List Int} {x y : Int} (h : w.ownsRow base 3 1 v (l.length + 2) (l.map (Value.int .i64) ++ [.int .i64 x, .int .i64 y])) : RowI w base v (l ++ [x, y]) := by
  unfold RowI
  simpa using h
theorem row_some {w : World} {base : Nat} {v : Value} {l : List Int} (h : RowI w base v l) (hne : l ≠ []) : ∃ g c cur, v = .slice (some ⟨g, 0, none⟩) l.length c ∧ base ≤ g ∧ w.heap[g]? = some (.cells cur 3 (0, 0)) ∧ l.length ≤ c ∧ c ≤ maxLen ∧ cur.size = c ∧ cur.toList.take l.length = l.map (Value.int .i64) := by
  rcases h.2 with ⟨rfl, h0⟩ | ⟨g, cap, cur, rfl, h1, h2, h3, h4, h5, h6⟩
  · exact absurd (List.eq_nil_of_length_eq_zero h0) hne
  · exact ⟨g, cap, cur, rfl, h1, h2, h3, h4, by omega, by simpa using h6⟩
theorem cur_at {cur : Array Value} {l : List Int} (h : cur.toList.take l.length = l.map (Value.int .i64)) (j : Nat) (hj : j < l.length) : cur[j]? = some (.int .i64 l[j]) := by
  have := congrArg (fun z => z[j]?) h
  simp only [List.getElem?_take, if_pos hj, List.getElem?_map, List.getElem?_eq_getElem hj, Option.map_some] at this
  simpa using this
theorem row_holds {w : World} {g : Nat} {cur : Array Value} {l : List Int} (hb : w.heap[g]? = some (.cells cur 3 (0, 0))) (h : cur.toList.take l.length = l.map (Value.int .i64)) : Holds (Value.int .i64) w g 0 l.toArray := by
  intro j hj
  have hj' : j < l.length := by simpa using hj
  refine ⟨?_, blk_frozen hb _⟩
  rw [blk_cell hb, Nat.zero_add, cur_at h j hj', getElem!_pos l.toArray j hj]
  simp
theorem putRow_id (w : World) (g : Nat) (d : List Int) : putRow (Value.int .i64) w g 0 d.toArray = putRow id w g 0 (d.map (Value.int .i64)).toArray := by
  unfold putRow
  congr 1
  funext c
  unfold putCells
  congr 1
  funext k x
  simp only [Nat.zero_le, true_and, Nat.zero_add, Nat.sub_zero, List.size_toArray, List.length_map, id]
  by_cases hk : k < d.length
  · rw [if_pos hk, if_pos hk, getElem!_pos d.toArray k (by simpa using hk), getElem!_pos (d.map (Value.int .i64)).toArray k (by simpa using hk)]
    simp
  · rw [if_neg hk, if_neg hk]
/-- Laid anew it is owned again; its first m numbers are owned by the slice cut to m. -/
theorem row_put {w : World} {base g c : Nat} {cur : Array Value} {d : List Int} {n : Nat} (m : Nat) (os : Array Obj) (h1 : base ≤ g) (h2 : w.heap[g]? = some (.cells cur 3 (0, 0))) (h3 : n ≤ c) (h4 : c ≤ maxLen) (h5 : cur.size = c) (hd : d.length = n) (q : Nat) (hq : q ≤ n) :
    RowI (grow (putRow (Value.int .i64) (Sort.ahead w m) g 0 d.toArray) os) base (.slice (some ⟨g, 0, none⟩) q c) (d.take q) ∧ w.grownBy (grow (putRow (Value.int .i64) (Sort.ahead w m) g 0 d.toArray) os) (some g) := by
  rw [putRow_id]
  refine ⟨?_, grownBy_put _⟩
  have := own_put (w := w) (base := base) (g := g) (cap := c) (n := n) (k := 1) (m := m) (e := 3) (os := os) (cur := cur) (ts := d.map (Value.int .i64)) h1 h2 h3 h4 (by omega) (by simp [hd])
  rcases this with ⟨_, ⟨e, _⟩ | ⟨g', cap', cur', e, a1, a2, a3, a4, a5, a6⟩⟩
  · cases e
  · injection e with e1 _ e3
    injection e1 with e1
    injection e1 with e1
    subst e1 e3
    have hlen : (d.take q).length = q := by rw [List.length_take]; omega
    refine ⟨by simp, .inr ⟨g, c, cur', by rw [hlen], a1, a2, by omega, a4, a5, ?_⟩⟩
    rw [hlen, Nat.mul_one, List.map_take, ← a6, List.take_take]
    congr 1
    omega
end Go.Proofs.Ytningpmoojnomaa.Pr
end
