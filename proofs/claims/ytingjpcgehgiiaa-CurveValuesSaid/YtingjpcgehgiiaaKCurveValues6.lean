/- What the proof of the law needs, trimmed and merged by wip/pack.py out of the texts YtingjpcgehgiiaaPrx41. No condition. -/
import Derived.Test.YtingjpcgehgiiaaKCurveValues0
import Derived.Test.YtingjpcgehgiiaaKCurveValues1
import Derived.Test.YtingjpcgehgiiaaKCurveValues2
import Derived.Test.YtingjpcgehgiiaaKCurveValues3
import Derived.Test.YtingjpcgehgiiaaKCurveValues4
import Derived.Test.YtingjpcgehgiiaaKCurveValues5
section
namespace Go.Proofs.Ytingjpcgehgiiaa.Pr
open Go.RowKit Go.Proofs.YtingjpcgehgiiaaW.PrintWords Go.Proofs.YtingjpcgehgiiaaW.PrintLast Go.Proofs.YtingjpcgehgiiaaW.PrintMore
attribute [local go_sem] max2_int min2_int max_two min_two max_three min_three max_four min_four   -- for this text's walks alone
set_option linter.unusedVariables false
set_option linter.unusedSimpArgs false
mutual
def kimberlitelaw03_CurveValues.j0 : Nat → Int → Int → List Int → Bool → Int → Int → List Int → Option (Bool)
 | 0, _, _, _, _, _, _, _ => none
 | k + 1, x1, x2, x3, x25, x760000, x760001, x760002 => if x25 = true then ((kimberlitelaw03_alive.f).bind fun t761 => (some t761)) else ((kimberlitelaw03_own.f k x760000 x760001 x760002).bind fun bt762 => ((curve_At.f bt762.1 bt762.2.1 bt762.2.2 x1).bind fun bt768 => ((kimberliteref03_At.f k x760000 x760001 x760002 x1).bind fun bt770 => (if bt768.1 = bt770.1 then (if bt768.2 = bt770.2 then ((curve_Valid.f bt762.1 bt762.2.1 bt762.2.2).bind fun t772 => ((kimberliteref03_Valid.f k x760000 x760001 x760002).bind fun t773 => (kimberlitelaw03_CurveValues.j1 k x2 x3 (t772 != t773) x760000 x760001 x760002 bt762.1 bt762.2.1 bt762.2.2))) else (kimberlitelaw03_CurveValues.j1 k x2 x3 true x760000 x760001 x760002 bt762.1 bt762.2.1 bt762.2.2)) else (kimberlitelaw03_CurveValues.j1 k x2 x3 true x760000 x760001 x760002 bt762.1 bt762.2.1 bt762.2.2)))))
def kimberlitelaw03_CurveValues.j1 : Nat → Int → List Int → Bool → Int → Int → List Int → Int → Int → List Int → Option (Bool)
 | 0, _, _, _, _, _, _, _, _, _ => none
 | k + 1, x2, x3, x55, x760000, x760001, x760002, x768000, x768001, x768002 => if x55 = true then (some false) else (if 0 ≤ (x3.length : Int) then (if ((x3.length : Int) : Int).toNat ≤ 35184372088832 then (kimberlitelaw03_CurveValues.l0 k x2 x3 (List.replicate ((x3.length : Int) : Int).toNat 0) 0 x760000 x760001 x760002 x768000 x768001 x768002) else (none)) else (none))
def kimberlitelaw03_CurveValues.l0 : Nat → Int → List Int → List Int → Int → Int → Int → List Int → Int → Int → List Int → Option (Bool)
 | 0, _, _, _, _, _, _, _, _, _, _ => none
 | k + 1, x2, x3, x14, x15, x760000, x760001, x760002, x768000, x768001, x768002 => if x15 < (x3.length : Int) then (if 0 ≤ x15 then (if x15 < (x14.length : Int) then (kimberlitelaw03_CurveValues.l0 k x2 x3 (x14.set (x15 : Int).toNat (rd x3 x15)) (wrap64 (x15 + 1)) x760000 x760001 x760002 x768000 x768001 x768002) else (none)) else (none)) else ((curve_Of.f k x2 x14).bind fun bt779 => ((kimberliteref03_Of.f k x2 x3).bind fun bt786 => ((kimberlitelaw03_told.f k bt779.1 bt779.2.1 bt779.2.2.1 bt779.2.2.2 bt786.1 bt786.2.1 bt786.2.2.1 bt786.2.2.2).bind fun bt793 => (if bt793.1 = true then ((kimberlitelaw03_same.f k x14 x3).bind fun t795 => (if t795 = true then ((kimberlitelaw03_alike.f k x760000 x760001 x760002 x768000 x768001 x768002).bind fun t796 => (if t796 = true then ((kimberlitelaw03_alive.f).bind fun t797 => (some t797)) else (some false))) else (some false))) else (some false)))))
end
def kimberlitelaw03_CurveValues.f (k : Nat) (a0_0 : Int) (a0_1 : Int) (l0_2 : List Int) (a1 : Int) (a2 : Int) (l3 : List Int) : Option (Bool) := (kimberlitelaw03_few.f a0_0 a0_1 l0_2).bind fun t760 => (if t760 = true then (kimberlitelaw03_CurveValues.j0 k a1 a2 l3 (decide ((l3.length : Int) > 100)) a0_0 a0_1 l0_2) else (kimberlitelaw03_CurveValues.j0 k a1 a2 l3 true a0_0 a0_1 l0_2))
theorem kimberlitelaw03_CurveValues.mono_l : ∀ k, (∀ y0 y1 y2 y3 y4 y5 y6, LeO (kimberlitelaw03_CurveValues.j0 k y0 y1 y2 y3 y4 y5 y6) (kimberlitelaw03_CurveValues.j0 (k + 1) y0 y1 y2 y3 y4 y5 y6)) ∧ (∀ y0 y1 y2 y3 y4 y5 y6 y7 y8, LeO (kimberlitelaw03_CurveValues.j1 k y0 y1 y2 y3 y4 y5 y6 y7 y8) (kimberlitelaw03_CurveValues.j1 (k + 1) y0 y1 y2 y3 y4 y5 y6 y7 y8)) ∧ (∀ y0 y1 y2 y3 y4 y5 y6 y7 y8 y9, LeO (kimberlitelaw03_CurveValues.l0 k y0 y1 y2 y3 y4 y5 y6 y7 y8 y9) (kimberlitelaw03_CurveValues.l0 (k + 1) y0 y1 y2 y3 y4 y5 y6 y7 y8 y9))
 | 0 => ⟨fun _ _ _ _ _ _ _ r h => by simp [kimberlitelaw03_CurveValues.j0] at h, fun _ _ _ _ _ _ _ _ _ r h => by simp [kimberlitelaw03_CurveValues.j1] at h, fun _ _ _ _ _ _ _ _ _ _ r h => by simp [kimberlitelaw03_CurveValues.l0] at h⟩
 | k + 1 => by
  obtain ⟨ih0, ih1, ih2⟩ := kimberlitelaw03_CurveValues.mono_l k
  refine ⟨?_, ?_, ?_⟩
  · intro y0 y1 y2 y3 y4 y5 y6
    unfold kimberlitelaw03_CurveValues.j0
    repeat' first
    | (with_reducible exact ih0 _ _ _ _ _ _ _)
    | (with_reducible exact ih1 _ _ _ _ _ _ _ _ _)
    | (with_reducible exact ih2 _ _ _ _ _ _ _ _ _ _)
    | (with_reducible exact curve_Of.mono _ _ _)
    | (with_reducible exact kimberlitelaw03_alike.mono _ _ _ _ _ _ _)
    | (with_reducible exact kimberlitelaw03_own.mono _ _ _ _)
    | (with_reducible exact kimberlitelaw03_same.mono _ _ _)
    | (with_reducible exact kimberlitelaw03_told.mono _ _ _ _ _ _ _ _ _)
    | (with_reducible exact kimberliteref03_At.mono _ _ _ _ _)
    | (with_reducible exact kimberliteref03_Of.mono _ _ _)
    | (with_reducible exact kimberliteref03_Valid.mono _ _ _ _)
    | (with_reducible exact LeO.refl _)
    | (with_reducible exact LeO.none _)
    | (with_reducible refine LeO.ite ?_ ?_)
    | (with_reducible refine LeO.bind ?_ (fun _ => ?_))
    | exact ih0 _ _ _ _ _ _ _
    | exact ih1 _ _ _ _ _ _ _ _ _
    | exact ih2 _ _ _ _ _ _ _ _ _ _
    | exact curve_Of.mono _ _ _
    | exact kimberlitelaw03_alike.mono _ _ _ _ _ _ _
    | exact kimberlitelaw03_own.mono _ _ _ _
    | exact kimberlitelaw03_same.mono _ _ _
    | exact kimberlitelaw03_told.mono _ _ _ _ _ _ _ _ _
    | exact kimberliteref03_At.mono _ _ _ _ _
    | exact kimberliteref03_Of.mono _ _ _
    | exact kimberliteref03_Valid.mono _ _ _ _
    | exact LeO.none _
    | refine LeO.ite ?_ ?_
    | refine LeO.bind ?_ (fun _ => ?_)
  · intro y0 y1 y2 y3 y4 y5 y6 y7 y8
    unfold kimberlitelaw03_CurveValues.j1
    repeat' first
    | (with_reducible exact ih0 _ _ _ _ _ _ _)
    | (with_reducible exact ih1 _ _ _ _ _ _ _ _ _)
    | (with_reducible exact ih2 _ _ _ _ _ _ _ _ _ _)
    | (with_reducible exact curve_Of.mono _ _ _)
    | (with_reducible exact kimberlitelaw03_alike.mono _ _ _ _ _ _ _)
    | (with_reducible exact kimberlitelaw03_own.mono _ _ _ _)
    | (with_reducible exact kimberlitelaw03_same.mono _ _ _)
    | (with_reducible exact kimberlitelaw03_told.mono _ _ _ _ _ _ _ _ _)
    | (with_reducible exact kimberliteref03_At.mono _ _ _ _ _)
    | (with_reducible exact kimberliteref03_Of.mono _ _ _)
    | (with_reducible exact kimberliteref03_Valid.mono _ _ _ _)
    | (with_reducible exact LeO.refl _)
    | (with_reducible exact LeO.none _)
    | (with_reducible refine LeO.ite ?_ ?_)
    | (with_reducible refine LeO.bind ?_ (fun _ => ?_))
    | exact ih0 _ _ _ _ _ _ _
    | exact ih1 _ _ _ _ _ _ _ _ _
    | exact ih2 _ _ _ _ _ _ _ _ _ _
    | exact curve_Of.mono _ _ _
    | exact kimberlitelaw03_alike.mono _ _ _ _ _ _ _
    | exact kimberlitelaw03_own.mono _ _ _ _
    | exact kimberlitelaw03_same.mono _ _ _
    | exact kimberlitelaw03_told.mono _ _ _ _ _ _ _ _ _
    | exact kimberliteref03_At.mono _ _ _ _ _
    | exact kimberliteref03_Of.mono _ _ _
    | exact kimberliteref03_Valid.mono _ _ _ _
    | exact LeO.none _
    | refine LeO.ite ?_ ?_
    | refine LeO.bind ?_ (fun _ => ?_)
  · intro y0 y1 y2 y3 y4 y5 y6 y7 y8 y9
    unfold kimberlitelaw03_CurveValues.l0
    repeat' first
    | (with_reducible exact ih0 _ _ _ _ _ _ _)
    | (with_reducible exact ih1 _ _ _ _ _ _ _ _ _)
    | (with_reducible exact ih2 _ _ _ _ _ _ _ _ _ _)
    | (with_reducible exact curve_Of.mono _ _ _)
    | (with_reducible exact kimberlitelaw03_alike.mono _ _ _ _ _ _ _)
    | (with_reducible exact kimberlitelaw03_own.mono _ _ _ _)
    | (with_reducible exact kimberlitelaw03_same.mono _ _ _)
    | (with_reducible exact kimberlitelaw03_told.mono _ _ _ _ _ _ _ _ _)
    | (with_reducible exact kimberliteref03_At.mono _ _ _ _ _)
    | (with_reducible exact kimberliteref03_Of.mono _ _ _)
    | (with_reducible exact kimberliteref03_Valid.mono _ _ _ _)
    | (with_reducible exact LeO.refl _)
    | (with_reducible exact LeO.none _)
    | (with_reducible refine LeO.ite ?_ ?_)
    | (with_reducible refine LeO.bind ?_ (fun _ => ?_))
    | exact ih0 _ _ _ _ _ _ _
    | exact ih1 _ _ _ _ _ _ _ _ _
    | exact ih2 _ _ _ _ _ _ _ _ _ _
    | exact curve_Of.mono _ _ _
    | exact kimberlitelaw03_alike.mono _ _ _ _ _ _ _
    | exact kimberlitelaw03_own.mono _ _ _ _
    | exact kimberlitelaw03_same.mono _ _ _
    | exact kimberlitelaw03_told.mono _ _ _ _ _ _ _ _ _
    | exact kimberliteref03_At.mono _ _ _ _ _
    | exact kimberliteref03_Of.mono _ _ _
    | exact kimberliteref03_Valid.mono _ _ _ _
    | exact LeO.none _
    | refine LeO.ite ?_ ?_
    | refine LeO.bind ?_ (fun _ => ?_)
theorem kimberlitelaw03_CurveValues.mono : ∀ a0 a1 a2 a3 a4 a5 k, LeO (kimberlitelaw03_CurveValues.f k a0 a1 a2 a3 a4 a5) (kimberlitelaw03_CurveValues.f (k + 1) a0 a1 a2 a3 a4 a5) := by
 intro a0 a1 a2 a3 a4 a5 k
 obtain ⟨ih0, ih1, ih2⟩ := kimberlitelaw03_CurveValues.mono_l k
 unfold kimberlitelaw03_CurveValues.f
 repeat' first
  | (with_reducible exact ih0 _ _ _ _ _ _ _)
  | (with_reducible exact ih1 _ _ _ _ _ _ _ _ _)
  | (with_reducible exact ih2 _ _ _ _ _ _ _ _ _ _)
  | (with_reducible exact curve_Of.mono _ _ _)
  | (with_reducible exact kimberlitelaw03_alike.mono _ _ _ _ _ _ _)
  | (with_reducible exact kimberlitelaw03_own.mono _ _ _ _)
  | (with_reducible exact kimberlitelaw03_same.mono _ _ _)
  | (with_reducible exact kimberlitelaw03_told.mono _ _ _ _ _ _ _ _ _)
  | (with_reducible exact kimberliteref03_At.mono _ _ _ _ _)
  | (with_reducible exact kimberliteref03_Of.mono _ _ _)
  | (with_reducible exact kimberliteref03_Valid.mono _ _ _ _)
  | (with_reducible exact LeO.refl _)
  | (with_reducible exact LeO.none _)
  | (with_reducible refine LeO.ite ?_ ?_)
  | (with_reducible refine LeO.bind ?_ (fun _ => ?_))
  | exact ih0 _ _ _ _ _ _ _
  | exact ih1 _ _ _ _ _ _ _ _ _
  | exact ih2 _ _ _ _ _ _ _ _ _ _
  | exact curve_Of.mono _ _ _
  | exact kimberlitelaw03_alike.mono _ _ _ _ _ _ _
  | exact kimberlitelaw03_own.mono _ _ _ _
  | exact kimberlitelaw03_same.mono _ _ _
  | exact kimberlitelaw03_told.mono _ _ _ _ _ _ _ _ _
  | exact kimberliteref03_At.mono _ _ _ _ _
  | exact kimberliteref03_Of.mono _ _ _
  | exact kimberliteref03_Valid.mono _ _ _ _
  | exact LeO.none _
  | refine LeO.ite ?_ ?_
  | refine LeO.bind ?_ (fun _ => ?_)
def kimberlitelaw03_CurveValues.T6 : Bool × List (List Nat × List Nat) := (true, [([], []), ([], []), ([0, 1], [0, 1]), ([2], [2]), ([3], [3]), ([3], [3]), ([4, 5, 3], [3, 4, 5]), ([3, 6], [3, 6]), ([7, 3], [7]), ([8], [8]), ([9, 8, 8], [8, 9]), ([8], [8]), ([11, 10, 8], [8, 11]), ([10, 12, 8], [8, 10, 12]), ([8, 13], [8, 13])])
def kimberlitelaw03_CurveValues.B6 : List Nat := [0, 0, 3, 7, 15, 15, 63, 127, 255, 511, 1023, 511, 4095, 8191, 16383]
theorem kimberlitelaw03_CurveValues.tab6 : rtab .any (opsOf Try.f8 6) = kimberlitelaw03_CurveValues.T6 := by kernel_rfl
theorem kimberlitelaw03_CurveValues.bits6 : waitsOk kimberlitelaw03_CurveValues.T6.2 kimberlitelaw03_CurveValues.B6 = true := by kernel_rfl
set_option maxHeartbeats 8000000 in
set_option maxRecDepth 100000 in
theorem kimberlitelaw03_CurveValues.calls (k : Nat) (a0_0 : Int) (a0_1 : Int) (A0_2 : Option Addr) (c0_2 : Nat) (l0_2 : List Int) (a1 : Int) (a2 : Int) (A3 : Option Addr) (c3 : Nat) (l3 : List Int) (r : Bool) (w : World) (hr0_2 : Kd.C (Kd.int .i64) w A0_2 l0_2.length l0_2) (hc0_2 : l0_2.length ≤ c0_2) (hr3 : Kd.C (Kd.int .i64) w A3 l3.length l3) (hc3 : l3.length ≤ c3) (h : kimberlitelaw03_CurveValues.f k a0_0 a0_1 l0_2 a1 a2 l3 = some r) :
 Calls Try.prog 8 #[.agg #[.int .i64 a0_0, .int .i64 a0_1, .slice A0_2 l0_2.length c0_2], .int .i64 a1, .int .i64 a2, .slice A3 l3.length c3] w fun e w' => e = .returned (.bool r) ∧ Below w.heap.size w w' := by
 have hu24 := Try.underlying24
 have HR0_2 := Aside0.mk hr0_2
 have HC0_2 := Aside0.mk hc0_2
 clear hr0_2 hc0_2
 have HR3 := Aside0.mk hr3
 have HC3 := Aside0.mk hc3
 clear hr3 hc3
 have HB := Aside0.mk (Below.refl w.heap.size w)
 have H : ((kimberlitelaw03_few.f a0_0 a0_1 l0_2).bind fun t760 => (if t760 = true then (kimberlitelaw03_CurveValues.j0 k a1 a2 l3 (decide ((l3.length : Int) > 100)) a0_0 a0_1 l0_2) else (kimberlitelaw03_CurveValues.j0 k a1 a2 l3 true a0_0 a0_1 l0_2))) = some r := h
 clear h
 have HC5 := Aside0.mk H
 clear H
 go_enter Try.func8, Try.ntmps8
 go_upto_region 1 with (first | ((with_reducible refine gate_dst (N := 4) rfl ?_); (try (refine gate_guard (by rfl) ?_; dsimp only)); refine box_event ?hg (N := 4) ?hd (cs := #[.int .i64 a0_0, .int .i64 a0_1, .slice A0_2 l0_2.length c0_2]) (t := 24) ?hr ?_; (case hd => rfl); (case hg => rfl); (case hr => first | (go_simp; done) | (go_simp; rfl)); intro gb759 hg w6 hbox hb; have n0_ := Aside0.mk (below_step (nC HB) hb); have n1_ := Aside0.mk (hbox); have n2_ := Aside0.mk ((by rw [hg]; exact (below_size (nC HB)) : w.heap.size ≤ gb759)); have n3_ := Aside0.mk ((by rw [hg]; exact (below_size (nC HB)) : w.heap.size ≤ gb759)); clear HB; have HB := n0_; have BK759 := n1_; have GW759 := n2_; have GE759 := n3_; clear n0_ n1_ n2_ n3_; clear hb hbox hg))
 (try simp only [Act.put, List.setIfInBounds_toArray, List.set_cons_zero, List.set_cons_succ])
 go_cut [25] (fun v25 wc => ∃ (kq : Nat) (x25_4 : Bool), v25 = .bool x25_4 ∧ Aside0 (kimberlitelaw03_CurveValues.j0 kq a1 a2 l3 x25_4 a0_0 a0_1 l0_2 = some r) ∧ Aside0 (kq ≤ k) ∧ Aside0 (wc.heap[gb759]? = some (.cells #[.int .i64 a0_0, .int .i64 a0_1, (.slice A0_2 l0_2.length c0_2)] 24 (0, 0))) ∧ Aside0 (Below w.heap.size w wc))
 case first =>
  as_aux_lemma =>
  have H := HC5.out
  clear HC5
  replace H := Option.bind_eq_some_iff.mp H
  obtain ⟨t760, A70, H⟩ := H
  replace H : (if t760 = true then (kimberlitelaw03_CurveValues.j0 k a1 a2 l3 (decide ((l3.length : Int) > 100)) a0_0 a0_1 l0_2) else (kimberlitelaw03_CurveValues.j0 k a1 a2 l3 true a0_0 a0_1 l0_2)) = some r := H
  have A7 := Aside0.mk A70
  clear A70
  by_cases c8 : t760 = true
  · subst c8
    have H1 : (kimberlitelaw03_CurveValues.j0 k a1 a2 l3 (decide ((l3.length : Int) > 100)) a0_0 a0_1 l0_2) = some r := by rw [if_pos rfl] at H; exact H
    clear H
    have H := H1
    clear H1
    have H' := Aside0.mk H
    clear H
    have hcz9_0 : w6.cell? ⟨gb759, 0, none⟩ = some (.int .i64 a0_0) := (blk_cell BK759.out 0).trans rfl
    have hcz9_1 : w6.cell? ⟨gb759, 1, none⟩ = some (.int .i64 a0_1) := (blk_cell BK759.out 1).trans rfl
    have hcz9_2 : w6.cell? ⟨gb759, 2, none⟩ = some (.slice A0_2 l0_2.length c0_2) := (blk_cell BK759.out 2).trans rfl
    have hfz9_0 := blk_frozen BK759.out 0
    have hfz9_1 := blk_frozen BK759.out 1
    have hfz9_2 := blk_frozen BK759.out 2
    go_wp2_with (first | ((with_reducible refine gate_callee (f := 22) rfl ?_); refine goesL_ (some 19) rfl rfl Try.func22 (by kernel_rfl) rfl #[.agg #[.int .i64 a0_0, .int .i64 a0_1, .slice A0_2 l0_2.length c0_2]] rfl (by (try simp only [List.map_toArray, List.map_cons, List.map_nil]); first | done | rfl | (simp only [List.length_drop, List.length_take]; rfl)) ?_; (with_reducible refine (kimberlitelaw03_few.calls a0_0 a0_1 _ _ l0_2 true _ ?side1 ?side2 A7.out).mono ?_); (case side1 => repeat (first | exact (Kd.C_below HR0_2.out HB.out) | (with_reducible refine Kd.C_alloc ?_ _) | (with_reducible refine Kd.C_drewN ?_ _) | (with_reducible refine Kd.C_drew ?_))); (case side2 => exact HC0_2.out); rintro e w10 ⟨rfl, hb⟩; refine ⟨_, rfl, ?_⟩; have n0_ := Aside0.mk (nB BK759 hb); have n1_ := Aside0.mk (below_step (nC HB) hb); clear BK759; clear HB; have BK759 := n0_; have HB := n1_; clear n0_ n1_; (try clear hb); (try clear hb2); (try clear hk); (try clear hi)))
    go_meet
    case rel => exact ⟨_, (decide ((l3.length : Int) > 100)), (by first | rfl | (simp; done) | (simp [*]; done)), H', ⟨by first | omega | exact Nat.le_refl _⟩, ⟨nK BK759⟩, ⟨nC HB⟩⟩
  · replace c8 := Bool.eq_false_iff.mpr c8
    subst c8
    have H1 : (kimberlitelaw03_CurveValues.j0 k a1 a2 l3 true a0_0 a0_1 l0_2) = some r := by rw [if_neg (show ¬ (false = true) by decide)] at H; exact H
    clear H
    have H := H1
    clear H1
    have H' := Aside0.mk H
    clear H
    have hcz11_0 : w6.cell? ⟨gb759, 0, none⟩ = some (.int .i64 a0_0) := (blk_cell BK759.out 0).trans rfl
    have hcz11_1 : w6.cell? ⟨gb759, 1, none⟩ = some (.int .i64 a0_1) := (blk_cell BK759.out 1).trans rfl
    have hcz11_2 : w6.cell? ⟨gb759, 2, none⟩ = some (.slice A0_2 l0_2.length c0_2) := (blk_cell BK759.out 2).trans rfl
    have hfz11_0 := blk_frozen BK759.out 0
    have hfz11_1 := blk_frozen BK759.out 1
    have hfz11_2 := blk_frozen BK759.out 2
    go_wp2_with (first | ((with_reducible refine gate_callee (f := 22) rfl ?_); refine goesL_ (some 19) rfl rfl Try.func22 (by kernel_rfl) rfl #[.agg #[.int .i64 a0_0, .int .i64 a0_1, .slice A0_2 l0_2.length c0_2]] rfl (by (try simp only [List.map_toArray, List.map_cons, List.map_nil]); first | done | rfl | (simp only [List.length_drop, List.length_take]; rfl)) ?_; (with_reducible refine (kimberlitelaw03_few.calls a0_0 a0_1 _ _ l0_2 false _ ?side1 ?side2 A7.out).mono ?_); (case side1 => repeat (first | exact (Kd.C_below HR0_2.out HB.out) | (with_reducible refine Kd.C_alloc ?_ _) | (with_reducible refine Kd.C_drewN ?_ _) | (with_reducible refine Kd.C_drew ?_))); (case side2 => exact HC0_2.out); rintro e w12 ⟨rfl, hb⟩; refine ⟨_, rfl, ?_⟩; have n0_ := Aside0.mk (nB BK759 hb); have n1_ := Aside0.mk (below_step (nC HB) hb); clear BK759; clear HB; have BK759 := n0_; have HB := n1_; clear n0_ n1_; (try clear hb); (try clear hb2); (try clear hk); (try clear hi)))
    go_meet
    case rel => exact ⟨_, (true), (by first | rfl | (simp; done) | (simp [*]; done)), H', ⟨by first | omega | exact Nat.le_refl _⟩, ⟨nK BK759⟩, ⟨nC HB⟩⟩
 case rest =>
  as_aux_lemma =>
  clear HC5
  try clear c2
  try clear p2
  try clear c3
  try clear c8
  try clear hcz11_0
  try clear hcz11_1
  try clear hcz11_2
  try clear hcz9_0
  try clear hcz9_1
  try clear hcz9_2
  try clear hfz11_0
  try clear hfz11_1
  try clear hfz11_2
  try clear hfz9_0
  try clear hfz9_1
  try clear hfz9_2
  obtain ⟨kq, x25_4, rfl, HA, HJ4, BK759, HB⟩ := hcut
  cases kq with
  | zero => exact absurd HA.out (by simp [kimberlitelaw03_CurveValues.j0])
  | succ kj4 =>
   have H := HA.out
   clear HA
   simp only [kimberlitelaw03_CurveValues.j0] at H
   by_cases c13 : x25_4 = true
   · subst c13
     have H1 : ((kimberlitelaw03_alive.f).bind fun t761 => (some t761)) = some r := by rw [if_pos rfl] at H; exact H
     clear H
     have H := H1
     clear H1
     replace H := Option.bind_eq_some_iff.mp H
     obtain ⟨t761, A140, H⟩ := H
     replace H : (some t761) = some r := H
     have A14 := Aside0.mk A140
     clear A140
     obtain rfl := Option.some.inj H
     go_wp2_with (first | ((with_reducible refine gate_callee (f := 17) rfl ?_); refine goesL_ (some 26) rfl rfl Try.func17 (by kernel_rfl) rfl #[] rfl (by (try simp only [List.map_toArray, List.map_cons, List.map_nil]); first | done | rfl | (simp only [List.length_drop, List.length_take]; rfl)) ?_; (with_reducible refine (kimberlitelaw03_alive.calls  t761 _ A14.out).mono ?_); rintro e w15 ⟨rfl, hb⟩; refine ⟨_, rfl, ?_⟩; have n0_ := Aside0.mk (nB BK759 hb); have n1_ := Aside0.mk (below_step (nC HB) hb); clear BK759; clear HB; have BK759 := n0_; have HB := n1_; clear n0_ n1_; (try clear hb); (try clear hb2); (try clear hk); (try clear hi)))
     go_ret
     exact ⟨by first | rfl | (simp [errW_none, errW_some] <;> rfl) | (simp [*, errW_none, errW_some] <;> rfl), nC HB⟩
   · replace c13 := Bool.eq_false_iff.mpr c13
     subst c13
     have H1 : ((kimberlitelaw03_own.f kj4 a0_0 a0_1 l0_2).bind fun bt762 => ((curve_At.f bt762.1 bt762.2.1 bt762.2.2 a1).bind fun bt768 => ((kimberliteref03_At.f kj4 a0_0 a0_1 l0_2 a1).bind fun bt770 => (if bt768.1 = bt770.1 then (if bt768.2 = bt770.2 then ((curve_Valid.f bt762.1 bt762.2.1 bt762.2.2).bind fun t772 => ((kimberliteref03_Valid.f kj4 a0_0 a0_1 l0_2).bind fun t773 => (kimberlitelaw03_CurveValues.j1 kj4 a2 l3 (t772 != t773) a0_0 a0_1 l0_2 bt762.1 bt762.2.1 bt762.2.2))) else (kimberlitelaw03_CurveValues.j1 kj4 a2 l3 true a0_0 a0_1 l0_2 bt762.1 bt762.2.1 bt762.2.2)) else (kimberlitelaw03_CurveValues.j1 kj4 a2 l3 true a0_0 a0_1 l0_2 bt762.1 bt762.2.1 bt762.2.2))))) = some r := by rw [if_neg (show ¬ (false = true) by decide)] at H; exact H
     clear H
     have H := H1
     clear H1
     replace H := Option.bind_eq_some_iff.mp H
     obtain ⟨⟨t762, t763, t764⟩, A160, H⟩ := H
     replace H : ((curve_At.f t762 t763 t764 a1).bind fun bt768 => ((kimberliteref03_At.f kj4 a0_0 a0_1 l0_2 a1).bind fun bt770 => (if bt768.1 = bt770.1 then (if bt768.2 = bt770.2 then ((curve_Valid.f t762 t763 t764).bind fun t772 => ((kimberliteref03_Valid.f kj4 a0_0 a0_1 l0_2).bind fun t773 => (kimberlitelaw03_CurveValues.j1 kj4 a2 l3 (t772 != t773) a0_0 a0_1 l0_2 t762 t763 t764))) else (kimberlitelaw03_CurveValues.j1 kj4 a2 l3 true a0_0 a0_1 l0_2 t762 t763 t764)) else (kimberlitelaw03_CurveValues.j1 kj4 a2 l3 true a0_0 a0_1 l0_2 t762 t763 t764)))) = some r := H
     have A16 := Aside0.mk A160
     clear A160
     replace H := Option.bind_eq_some_iff.mp H
     obtain ⟨⟨t768, t769⟩, A170, H⟩ := H
     replace H : ((kimberliteref03_At.f kj4 a0_0 a0_1 l0_2 a1).bind fun bt770 => (if t768 = bt770.1 then (if t769 = bt770.2 then ((curve_Valid.f t762 t763 t764).bind fun t772 => ((kimberliteref03_Valid.f kj4 a0_0 a0_1 l0_2).bind fun t773 => (kimberlitelaw03_CurveValues.j1 kj4 a2 l3 (t772 != t773) a0_0 a0_1 l0_2 t762 t763 t764))) else (kimberlitelaw03_CurveValues.j1 kj4 a2 l3 true a0_0 a0_1 l0_2 t762 t763 t764)) else (kimberlitelaw03_CurveValues.j1 kj4 a2 l3 true a0_0 a0_1 l0_2 t762 t763 t764))) = some r := H
     have A17 := Aside0.mk A170
     clear A170
     replace H := Option.bind_eq_some_iff.mp H
     obtain ⟨⟨t770, t771⟩, A180, H⟩ := H
     replace H : (if t768 = t770 then (if t769 = t771 then ((curve_Valid.f t762 t763 t764).bind fun t772 => ((kimberliteref03_Valid.f kj4 a0_0 a0_1 l0_2).bind fun t773 => (kimberlitelaw03_CurveValues.j1 kj4 a2 l3 (t772 != t773) a0_0 a0_1 l0_2 t762 t763 t764))) else (kimberlitelaw03_CurveValues.j1 kj4 a2 l3 true a0_0 a0_1 l0_2 t762 t763 t764)) else (kimberlitelaw03_CurveValues.j1 kj4 a2 l3 true a0_0 a0_1 l0_2 t762 t763 t764)) = some r := H
     have A18 := Aside0.mk A180
     clear A180
     have HC19 := Aside0.mk H
     clear H
     have hcz20_0 : wc.cell? ⟨gb759, 0, none⟩ = some (.int .i64 a0_0) := (blk_cell BK759.out 0).trans rfl
     have hcz20_1 : wc.cell? ⟨gb759, 1, none⟩ = some (.int .i64 a0_1) := (blk_cell BK759.out 1).trans rfl
     have hcz20_2 : wc.cell? ⟨gb759, 2, none⟩ = some (.slice A0_2 l0_2.length c0_2) := (blk_cell BK759.out 2).trans rfl
     have hfz20_0 := blk_frozen BK759.out 0
     have hfz20_1 := blk_frozen BK759.out 1
     have hfz20_2 := blk_frozen BK759.out 2
     go_upto_region 6 with (first | ((with_reducible refine gate_callee (f := 27) rfl ?_); refine goesL_ (some 28) rfl rfl Try.func27 (by kernel_rfl) rfl #[.agg #[.int .i64 a0_0, .int .i64 a0_1, .slice A0_2 l0_2.length c0_2]] rfl (by (try simp only [List.map_toArray, List.map_cons, List.map_nil]); first | done | rfl | (simp only [List.length_drop, List.length_take]; rfl)) ?_; (with_reducible refine (kimberlitelaw03_own.calls kj4 a0_0 a0_1 _ _ l0_2 t762 t763 t764 _ ?side1 ?side2 A16.out).mono ?_); (case side1 => repeat (first | exact (Kd.C_below HR0_2.out HB.out) | (with_reducible refine Kd.C_alloc ?_ _) | (with_reducible refine Kd.C_drewN ?_ _) | (with_reducible refine Kd.C_drew ?_))); (case side2 => exact HC0_2.out); rintro e w21 ⟨v765, rfl, ho0, hb⟩; refine ⟨_, rfl, ?_⟩; have n0_ := Aside0.mk (Kd.R_lower ho0 (below_size (nC HB))); have n1_ := Aside0.mk (nB BK759 hb); have n2_ := Aside0.mk (below_step (nC HB) hb); clear BK759; clear HB; have HO766 := n0_; have BK759 := n1_; have HB := n2_; clear n0_ n1_ n2_; (try clear hb); (try clear hb2); (try clear hk); (try clear hi); (try clear ho0)) | ((with_reducible refine gate_dst (N := 9) rfl ?_); (try (refine gate_guard (by rfl) ?_; dsimp only)); refine box_event ?hg (N := 9) ?hd (cs := #[.int .i64 0, .int .i64 0, .slice none 0 0]) (t := 24) ?hr ?_; (case hd => rfl); (case hg => rfl); (case hr => first | (go_simp; done) | (go_simp; rfl)); intro gb767 hg w22 hbox hb; have n0_ := Aside0.mk (Kd.R_below (nR HO766) hb); have n1_ := Aside0.mk (nB BK759 hb); have n2_ := Aside0.mk (below_step (nC HB) hb); have n3_ := Aside0.mk (hbox); have n4_ := Aside0.mk ((by rw [hg]; exact (below_size (nC HB)) : w.heap.size ≤ gb767)); have n5_ := Aside0.mk ((by rw [hg]; exact (below_size (nC HB)) : w.heap.size ≤ gb767)); have n6_ := Aside0.mk ((by rw [hg]; exact Nat.ne_of_lt (blk_lt (g := gb759) (o := .cells #[.int .i64 a0_0, .int .i64 a0_1, .slice A0_2 l0_2.length c0_2] 24 (0, 0)) (nK BK759)) : gb759 ≠ gb767)); have n7_ := Aside0.mk ((by rw [hg]; exact Nat.ne_of_gt (blk_lt (g := gb759) (o := .cells #[.int .i64 a0_0, .int .i64 a0_1, .slice A0_2 l0_2.length c0_2] 24 (0, 0)) (nK BK759)) : gb767 ≠ gb759)); clear HO766; clear BK759; clear HB; have HO766 := n0_; have BK759 := n1_; have HB := n2_; have BK767 := n3_; have GW767 := n4_; have GE767 := n5_; have NB759_767 := n6_; have NB767_759 := n7_; clear n0_ n1_ n2_ n3_ n4_ n5_ n6_ n7_; clear hb hbox hg; have hnb23 := NB767_759.out; have hnc23 := NB759_767.out; have hcz24_0 : w22.cell? ⟨gb767, 0, none⟩ = some (.int .i64 0) := (blk_cell BK767.out 0).trans rfl; have hcz24_1 : w22.cell? ⟨gb767, 1, none⟩ = some (.int .i64 0) := (blk_cell BK767.out 1).trans rfl; have hcz24_2 : w22.cell? ⟨gb767, 2, none⟩ = some (.slice none 0 0) := (blk_cell BK767.out 2).trans rfl; have hfz24_0 := blk_frozen BK767.out 0; have hfz24_1 := blk_frozen BK767.out 1; have hfz24_2 := blk_frozen BK767.out 2; obtain ⟨Ao25, co25, eo25⟩ := Kd.R_slice HO766.out; subst eo25) | ((with_reducible refine gate_callee (f := 28) rfl ?_); refine goesL_ (some 32) rfl rfl Try.func28 (by kernel_rfl) rfl #[.agg #[.int .i64 t762, .int .i64 t763, .slice Ao25 t764.length co25], .int .i64 a1] rfl (by (try simp only [List.map_toArray, List.map_cons, List.map_nil]); first | done | rfl | (simp only [List.length_drop, List.length_take]; rfl)) ?_; (with_reducible refine (curve_At.calls t762 t763 _ _ t764 a1 t768 t769 _ ?side1 ?side2 A17.out).mono ?_); (case side1 => refine (Kd.R_reads' (e := 3) (base := w.heap.size) (ok := fun k_ => True) (n := t764.length) (c := co25) ?_).2.2; exact (by (with_reducible repeat (first | apply Kd.R_alloc | apply Kd.R_drewN | apply Kd.R_drew)); exact (Kd.R_mono (Kd.R_far (p := ⟨gb767, 2, none⟩) (Kd.R_far (p := ⟨gb767, 1, none⟩) (Kd.R_far (p := ⟨gb767, 0, none⟩) (Kd.R_types HO766.out BK767.out (by decide)) (fun _ hk => hk.2) (.int .i64 t762)) (fun _ hk => hk.2) (.int .i64 t763)) (fun _ hk => hk.2) (.slice Ao25 t764.length co25)) (fun _ h_ => h_.1)))); (case side2 => exact (Kd.R_reads' HO766.out).2.1); rintro e w26 ⟨rfl, hb⟩; refine ⟨_, rfl, ?_⟩; have n0_ := Aside0.mk (Kd.R_below (by (with_reducible repeat (first | apply Kd.R_alloc | apply Kd.R_drewN | apply Kd.R_drew)); exact (Kd.R_mono (Kd.R_far (p := ⟨gb767, 2, none⟩) (Kd.R_far (p := ⟨gb767, 1, none⟩) (Kd.R_far (p := ⟨gb767, 0, none⟩) (Kd.R_types HO766.out BK767.out (by decide)) (fun _ hk => hk.2) (.int .i64 t762)) (fun _ hk => hk.2) (.int .i64 t763)) (fun _ hk => hk.2) (.slice Ao25 t764.length co25)) (fun _ h_ => h_.1))) hb); have n1_ := Aside0.mk (blk_below (g := gb759) (o := .cells #[.int .i64 a0_0, .int .i64 a0_1, .slice A0_2 l0_2.length c0_2] 24 (0, 0)) (by (with_reducible repeat (first | refine blk_drewN ?_ _ | refine blk_drew ?_ | refine blk_alloc ?_ _)); refine blk_far ?_ NB759_767.out _; (with_reducible repeat (first | refine blk_drewN ?_ _ | refine blk_drew ?_ | refine blk_alloc ?_ _)); refine blk_far ?_ NB759_767.out _; (with_reducible repeat (first | refine blk_drewN ?_ _ | refine blk_drew ?_ | refine blk_alloc ?_ _)); refine blk_far ?_ NB759_767.out _; (with_reducible repeat (first | refine blk_drewN ?_ _ | refine blk_drew ?_ | refine blk_alloc ?_ _)); exact BK759.out) hb); have n2_ := Aside0.mk (blk_below (g := gb767) (o := .cells #[.int .i64 t762, .int .i64 t763, .slice Ao25 t764.length co25] 24 (0, 0)) (by (with_reducible repeat (first | refine blk_drewN ?_ _ | refine blk_drew ?_ | refine blk_alloc ?_ _)); refine blk_put (cs := #[.int .i64 t762, .int .i64 t763, .slice none 0 0]) ?_ 2 _ rfl; (with_reducible repeat (first | refine blk_drewN ?_ _ | refine blk_drew ?_ | refine blk_alloc ?_ _)); refine blk_put (cs := #[.int .i64 t762, .int .i64 0, .slice none 0 0]) ?_ 1 _ rfl; (with_reducible repeat (first | refine blk_drewN ?_ _ | refine blk_drew ?_ | refine blk_alloc ?_ _)); refine blk_put (cs := #[.int .i64 0, .int .i64 0, .slice none 0 0]) ?_ 0 _ rfl; (with_reducible repeat (first | refine blk_drewN ?_ _ | refine blk_drew ?_ | refine blk_alloc ?_ _)); exact BK767.out) hb); have n3_ := Aside0.mk (below_step (nC HB) hb); clear HO766; clear BK759; clear BK767; clear HB; have HO766 := n0_; have BK759 := n1_; have BK767 := n2_; have HB := n3_; clear n0_ n1_ n2_ n3_; (try clear hb); (try clear hb2); (try clear hk); (try clear hi); have hcz27_0 : w26.cell? ⟨gb759, 0, none⟩ = some (.int .i64 a0_0) := (blk_cell BK759.out 0).trans rfl; have hcz27_1 : w26.cell? ⟨gb759, 1, none⟩ = some (.int .i64 a0_1) := (blk_cell BK759.out 1).trans rfl; have hcz27_2 : w26.cell? ⟨gb759, 2, none⟩ = some (.slice A0_2 l0_2.length c0_2) := (blk_cell BK759.out 2).trans rfl; have hfz27_0 := blk_frozen BK759.out 0; have hfz27_1 := blk_frozen BK759.out 1; have hfz27_2 := blk_frozen BK759.out 2) | ((with_reducible refine gate_callee (f := 29) rfl ?_); refine goesL_ (some 38) rfl rfl Try.func29 (by kernel_rfl) rfl #[.agg #[.int .i64 a0_0, .int .i64 a0_1, .slice A0_2 l0_2.length c0_2], .int .i64 a1] rfl (by (try simp only [List.map_toArray, List.map_cons, List.map_nil]); first | done | rfl | (simp only [List.length_drop, List.length_take]; rfl)) ?_; (with_reducible refine (kimberliteref03_At.calls kj4 a0_0 a0_1 _ _ l0_2 a1 t770 t771 _ ?side1 ?side2 A18.out).mono ?_); (case side1 => repeat (first | exact (Kd.C_below HR0_2.out HB.out) | (with_reducible refine Kd.C_alloc ?_ _) | (with_reducible refine Kd.C_drewN ?_ _) | (with_reducible refine Kd.C_drew ?_))); (case side2 => exact HC0_2.out); rintro e w28 ⟨rfl, hb⟩; refine ⟨_, rfl, ?_⟩; have n0_ := Aside0.mk (Kd.R_below (nR HO766) hb); have n1_ := Aside0.mk (nB BK759 hb); have n2_ := Aside0.mk (nB BK767 hb); have n3_ := Aside0.mk (below_step (nC HB) hb); clear HO766; clear BK759; clear BK767; clear HB; have HO766 := n0_; have BK759 := n1_; have BK767 := n2_; have HB := n3_; clear n0_ n1_ n2_ n3_; (try clear hb); (try clear hb2); (try clear hk); (try clear hi)))
     (try simp only [Act.put, List.setIfInBounds_toArray, List.set_cons_zero, List.set_cons_succ])
     go_cut [55] (fun v55 wc => ∃ (kq : Nat) (x55_18 : Bool), v55 = .bool x55_18 ∧ Aside0 (kimberlitelaw03_CurveValues.j1 kq a2 l3 x55_18 a0_0 a0_1 l0_2 t762 t763 t764 = some r) ∧ Aside0 (kq ≤ kj4) ∧ Aside0 (Kd.R (Kd.int .i64) 3 wc w.heap.size (fun _ => True) (.slice Ao25 t764.length co25) t764) ∧ Aside0 (wc.heap[gb759]? = some (.cells #[.int .i64 a0_0, .int .i64 a0_1, (.slice A0_2 l0_2.length c0_2)] 24 (0, 0))) ∧ Aside0 (wc.heap[gb767]? = some (.cells #[.int .i64 t762, .int .i64 t763, (.slice Ao25 t764.length co25)] 24 (0, 0))) ∧ Aside0 (Below w.heap.size w wc))
     case first =>
      as_aux_lemma =>
      have H := HC19.out
      clear HC19
      by_cases c29 : t768 = t770
      · rw [if_pos c29] at H
        have c29b0 : (t768 == t770) = true := beq_iff_eq.mpr c29
        have c29b1 : (t768 != t770) = false := bne_eq_false_iff_eq.mpr c29
        clear c29
        (first | rw [c29b0] | (simp only [i64_w, i32_w]; rw [c29b0]) | skip)
        by_cases c30 : t769 = t771
        · rw [if_pos c30] at H
          have c30b0 : (t769 == t771) = true := beq_iff_eq.mpr c30
          have c30b1 : (t769 != t771) = false := bne_eq_false_iff_eq.mpr c30
          clear c30
          replace H := Option.bind_eq_some_iff.mp H
          obtain ⟨t772, A310, H⟩ := H
          replace H : ((kimberliteref03_Valid.f kj4 a0_0 a0_1 l0_2).bind fun t773 => (kimberlitelaw03_CurveValues.j1 kj4 a2 l3 (t772 != t773) a0_0 a0_1 l0_2 t762 t763 t764)) = some r := H
          have A31 := Aside0.mk A310
          clear A310
          replace H := Option.bind_eq_some_iff.mp H
          obtain ⟨t773, A320, H⟩ := H
          replace H : (kimberlitelaw03_CurveValues.j1 kj4 a2 l3 (t772 != t773) a0_0 a0_1 l0_2 t762 t763 t764) = some r := H
          have A32 := Aside0.mk A320
          clear A320
          have H' := Aside0.mk H
          clear H
          try go_wp2
          have n0_ := Aside0.mk (Kd.R_drew HO766.out)
          have n1_ := Aside0.mk (blk_drew BK759.out)
          have n2_ := Aside0.mk (blk_drew BK767.out)
          have n3_ := Aside0.mk (below_drew1 HB.out)
          clear HO766
          clear BK759
          clear BK767
          clear HB
          have HO766 := n0_
          have BK759 := n1_
          have BK767 := n2_
          have HB := n3_
          clear n0_ n1_ n2_ n3_
          refine start_ (n := 15) (S := fun w' => w'.cell? ⟨gb767, 0, none⟩ = some (.int .i64 t762) ∧ w'.cell? ⟨gb767, 1, none⟩ = some (.int .i64 t763) ∧ w'.cell? ⟨gb767, 2, none⟩ = some (.slice Ao25 t764.length co25) ∧ w'.cell? ⟨gb759, 0, none⟩ = some (.int .i64 a0_0) ∧ w'.cell? ⟨gb759, 1, none⟩ = some (.int .i64 a0_1) ∧ w'.cell? ⟨gb759, 2, none⟩ = some (.slice A0_2 l0_2.length c0_2)) (ds := []) #[false, false, false, false, false, false, false, false, false, false, false, false, false, false, false] (by kernel_rfl) rfl rfl ⟨(blk_cell BK767.out 0).trans rfl, (blk_cell BK767.out 1).trans rfl, (blk_cell BK767.out 2).trans rfl, (blk_cell BK759.out 0).trans rfl, (blk_cell BK759.out 1).trans rfl, (blk_cell BK759.out 2).trans rfl⟩ (fun hHeld => ?_); refine with_tabW kimberlitelaw03_CurveValues.tab6 kimberlitelaw03_CurveValues.bits6 (fun HT_ HW_ => ?_)
          generalize w28.drew = w33 at HO766 BK759 BK767 HB hHeld ⊢
          refine pure_ (i := 0) (N := some 41) (v := ?_) (a' := ?_) #[true, false, false, false, false, false, false, false, false, false, false, false, false, false, false] rfl rfl (any_of HT_.out (by kernel_rfl)) (fun _ _ _ h => h) (Or.inl ⟨by rfl, ?_⟩) ?_ ?_
          rotate_left
          · intro w'
            go_simp
            with_reducible rfl
          rotate_left
          · simp only [Act.put, List.setIfInBounds_toArray, List.set_cons_zero, List.set_cons_succ, i64_w, i32_w]
            rfl
          refine pure_ (i := 1) (N := some 42) (v := ?_) (a' := ?_) #[true, true, false, false, false, false, false, false, false, false, false, false, false, false, false] rfl rfl (any_of HT_.out (by kernel_rfl)) (fun _ _ _ h => h) (Or.inl ⟨by rfl, ?_⟩) ?_ ?_
          rotate_left
          · intro w'
            go_simp
            with_reducible rfl
          rotate_left
          · simp only [Act.put, List.setIfInBounds_toArray, List.set_cons_zero, List.set_cons_succ, i64_w, i32_w]
            rfl
          refine pure_ (i := 2) (N := some 43) (v := ?_) (a' := ?_) #[true, true, true, false, false, false, false, false, false, false, false, false, false, false, false] rfl rfl (any_of HT_.out (by kernel_rfl)) (fun _ _ _ h => h) (Or.inl ⟨by rfl, ?_⟩) ?_ ?_
          rotate_left
          · intro w'
            go_simp
            with_reducible rfl
          rotate_left
          · simp only [Act.put, List.setIfInBounds_toArray, List.set_cons_zero, List.set_cons_succ, i64_w, i32_w]
            rfl
          refine pure_ (i := 3) (N := some 44) (v := ?_) (a' := ?_) #[true, true, true, true, false, false, false, false, false, false, false, false, false, false, false] rfl rfl (any_of HT_.out (by kernel_rfl)) (fun _ _ _ h => h) (Or.inl ⟨by rfl, ?_⟩) ?_ ?_
          rotate_left
          · intro w'
            go_simp
            with_reducible rfl
          rotate_left
          · simp only [Act.put, List.setIfInBounds_toArray, List.set_cons_zero, List.set_cons_succ, i64_w, i32_w]
            rfl
          refine pure_ (i := 4) (N := some 45) (v := ?_) (a' := ?_) #[true, true, true, true, true, false, false, false, false, false, false, false, false, false, false] rfl rfl (any_of HT_.out (by kernel_rfl)) (fun _ _ _ h => h) (Or.inl ⟨by rfl, ?_⟩) ?_ ?_
          rotate_left
          · intro w'
            go_simp
            with_reducible rfl
          rotate_left
          · simp only [Act.put, List.setIfInBounds_toArray, List.set_cons_zero, List.set_cons_succ, i64_w, i32_w]
            rfl
          refine pure_ (i := 5) (N := some 46) (v := ?_) (a' := ?_) #[true, true, true, true, true, true, false, false, false, false, false, false, false, false, false] rfl rfl (any_of HT_.out (by kernel_rfl)) (fun _ _ _ h => h) (Or.inl ⟨by rfl, ?_⟩) ?_ ?_
          rotate_left
          · intro w'
            go_simp
            with_reducible rfl
          rotate_left
          · simp only [Act.put, List.setIfInBounds_toArray, List.set_cons_zero, List.set_cons_succ, i64_w, i32_w]
            rfl
          refine pure_ (i := 6) (N := some 47) (v := ?_) (a' := ?_) #[true, true, true, true, true, true, true, false, false, false, false, false, false, false, false] rfl rfl (any_of HT_.out (by kernel_rfl)) (fun _ _ _ h => h) (Or.inl ⟨by rfl, ?_⟩) ?_ ?_
          rotate_left
          · intro w'
            go_simp
            with_reducible rfl
          rotate_left
          · simp only [Act.put, List.setIfInBounds_toArray, List.set_cons_zero, List.set_cons_succ, i64_w, i32_w]
            rfl
          refine pure_ (i := 7) (N := some 48) (v := ?_) (a' := ?_) #[true, true, true, true, true, true, true, true, false, false, false, false, false, false, false] rfl rfl (any_of HT_.out (by kernel_rfl)) (fun _ _ _ h => h) (Or.inl ⟨by rfl, ?_⟩) ?_ ?_
          rotate_left
          · intro w'
            go_simp
            with_reducible rfl
          rotate_left
          · simp only [Act.put, List.setIfInBounds_toArray, List.set_cons_zero, List.set_cons_succ, i64_w, i32_w]
            rfl
          refine pure_ (i := 8) (N := some 49) (v := ?_) (a' := ?_) #[true, true, true, true, true, true, true, true, true, false, false, false, false, false, false] rfl rfl (any_of HT_.out (by kernel_rfl)) (fun _ _ _ h => h) (Or.inl ⟨by rfl, ?_⟩) ?_ ?_
          rotate_left
          · intro w'
            go_simp
            with_reducible rfl
          rotate_left
          · simp only [Act.put, List.setIfInBounds_toArray, List.set_cons_zero, List.set_cons_succ, i64_w, i32_w]
            rfl
          refine take_ (i := 9) (N := some 50) (v := ?_) (a' := ?_) #[true, true, true, true, true, true, true, true, true, true, false, false, false, false, false] rfl rfl (take_ofW HT_.out HW_.out (by kernel_rfl)) (fun _ _ _ h => h) (Or.inl ⟨by rfl, ?_⟩) hHeld ?_ ?_
          rotate_left
          · rintro w' ⟨s0, s1, s2, s3, s4, s5⟩
            go_simp
            with_reducible rfl
          rotate_left
          · simp only [Act.put, List.setIfInBounds_toArray, List.set_cons_zero, List.set_cons_succ, i64_w, i32_w]
            rfl
          refine take_ (i := 11) (N := some 52) (v := ?_) (a' := ?_) #[true, true, true, true, true, true, true, true, true, true, false, true, false, false, false] rfl rfl (take_ofW HT_.out HW_.out (by kernel_rfl)) (fun _ _ _ h => h) (Or.inl ⟨by rfl, ?_⟩) hHeld ?_ ?_
          rotate_left
          · rintro w' ⟨s0, s1, s2, s3, s4, s5⟩
            go_simp
            with_reducible rfl
          rotate_left
          · simp only [Act.put, List.setIfInBounds_toArray, List.set_cons_zero, List.set_cons_succ, i64_w, i32_w]
            rfl
          refine one_ (i := 10) (N := some 51) #[true, true, true, true, true, true, true, true, true, true, true, true, false, false, false] rfl rfl (one_of HT_.out (by kernel_rfl)) (by decide) (fun K hK => ?_)
          refine goes_ Try.func16 (by kernel_rfl) rfl #[.agg #[.int .i64 t762, .int .i64 t763, .slice Ao25 t764.length co25]] (by rfl) rfl rfl (by (try simp only [List.map_toArray, List.map_cons, List.map_nil]); first | done | rfl | (simp only [List.length_drop, List.length_take]; rfl)) ?_
          with_reducible refine (curve_Valid.calls t762 t763 _ _ t764 t772 _ ?side1 ?side2 A31.out).mono ?_
          (case side1 => repeat (first | exact (Kd.R_reads' HO766.out).2.2 | (with_reducible refine Kd.C_alloc ?_ _) | (with_reducible refine Kd.C_drewN ?_ _) | (with_reducible refine Kd.C_drew ?_)))
          (case side2 => exact (Kd.R_reads' HO766.out).2.1)
          rintro e w34 ⟨rfl, hb⟩
          refine ⟨_, rfl, ?_⟩
          have n0_ := Aside0.mk (Kd.R_below (nR HO766) hb)
          have n1_ := Aside0.mk (nB BK759 hb)
          have n2_ := Aside0.mk (nB BK767 hb)
          have n3_ := Aside0.mk (below_step (nC HB) hb)
          clear HO766
          clear BK759
          clear BK767
          clear HB
          have HO766 := n0_
          have BK759 := n1_
          have BK767 := n2_
          have HB := n3_
          clear n0_ n1_ n2_ n3_
          (try clear hb)
          (try clear hb2)
          (try clear hk)
          (try clear hi)
          refine hK.out _ _ ⟨(blk_cell BK767.out 0).trans rfl, (blk_cell BK767.out 1).trans rfl, (blk_cell BK767.out 2).trans rfl, (blk_cell BK759.out 0).trans rfl, (blk_cell BK759.out 1).trans rfl, (blk_cell BK759.out 2).trans rfl⟩ (fun hHeld => ?_)
          clear hK K
          refine norm_ (a' := ?_) ?_ ?_
          rotate_left
          · show Act.put _ (some 51) _ = _
            simp only [Act.put, List.setIfInBounds_toArray, List.set_cons_zero, List.set_cons_succ, i64_w, i32_w]
            rfl
          refine one_ (i := 12) (N := some 53) #[true, true, true, true, true, true, true, true, true, true, true, true, true, false, false] rfl rfl (one_of HT_.out (by kernel_rfl)) (by decide) (fun K hK => ?_)
          refine goes_ Try.func30 (by kernel_rfl) rfl #[.agg #[.int .i64 a0_0, .int .i64 a0_1, .slice A0_2 l0_2.length c0_2]] (by rfl) rfl rfl (by (try simp only [List.map_toArray, List.map_cons, List.map_nil]); first | done | rfl | (simp only [List.length_drop, List.length_take]; rfl)) ?_
          with_reducible refine (kimberliteref03_Valid.calls kj4 a0_0 a0_1 _ _ l0_2 t773 _ ?side1 ?side2 A32.out).mono ?_
          (case side1 => repeat (first | exact (Kd.C_below HR0_2.out HB.out) | (with_reducible refine Kd.C_alloc ?_ _) | (with_reducible refine Kd.C_drewN ?_ _) | (with_reducible refine Kd.C_drew ?_)))
          (case side2 => exact HC0_2.out)
          rintro e w35 ⟨rfl, hb⟩
          refine ⟨_, rfl, ?_⟩
          have n0_ := Aside0.mk (Kd.R_below (nR HO766) hb)
          have n1_ := Aside0.mk (nB BK759 hb)
          have n2_ := Aside0.mk (nB BK767 hb)
          have n3_ := Aside0.mk (below_step (nC HB) hb)
          clear HO766
          clear BK759
          clear BK767
          clear HB
          have HO766 := n0_
          have BK759 := n1_
          have BK767 := n2_
          have HB := n3_
          clear n0_ n1_ n2_ n3_
          (try clear hb)
          (try clear hb2)
          (try clear hk)
          (try clear hi)
          refine hK.out _ _ ⟨(blk_cell BK767.out 0).trans rfl, (blk_cell BK767.out 1).trans rfl, (blk_cell BK767.out 2).trans rfl, (blk_cell BK759.out 0).trans rfl, (blk_cell BK759.out 1).trans rfl, (blk_cell BK759.out 2).trans rfl⟩ (fun hHeld => ?_)
          clear hK K
          refine norm_ (a' := ?_) ?_ ?_
          rotate_left
          · show Act.put _ (some 53) _ = _
            simp only [Act.put, List.setIfInBounds_toArray, List.set_cons_zero, List.set_cons_succ, i64_w, i32_w]
            rfl
          refine pure_ (i := 13) (N := some 54) (v := ?_) (a' := ?_) #[true, true, true, true, true, true, true, true, true, true, true, true, true, true, false] rfl rfl (any_of HT_.out (by kernel_rfl)) (fun _ _ _ h => h) (Or.inl ⟨by rfl, ?_⟩) ?_ ?_
          rotate_left
          · intro w'
            go_simp
            with_reducible rfl
          rotate_left
          · simp only [Act.put, List.setIfInBounds_toArray, List.set_cons_zero, List.set_cons_succ, i64_w, i32_w]
            rfl
          refine pure_ (i := 14) (N := some 55) (v := ?_) (a' := ?_) #[true, true, true, true, true, true, true, true, true, true, true, true, true, true, true] rfl rfl (any_of HT_.out (by kernel_rfl)) (fun _ _ _ h => h) (Or.inl ⟨by rfl, ?_⟩) ?_ ?_
          rotate_left
          · intro w'
            go_simp
            with_reducible rfl
          rotate_left
          · simp only [Act.put, List.setIfInBounds_toArray, List.set_cons_zero, List.set_cons_succ, i64_w, i32_w]
            rfl
          refine done_ (done_of HT_.out (by kernel_rfl)) ?_
          try go_wp2
          go_meet
          case rel => exact ⟨_, ((t772 != t773)), (by first | rfl | (simp; done) | (simp [*]; done)), H', ⟨by have := HJ4.out; first | omega | exact Nat.le_refl _⟩, ⟨nR HO766⟩, ⟨nK BK759⟩, ⟨nK BK767⟩, ⟨nC HB⟩⟩
        · rw [if_neg c30] at H
          have c30b0 : (t769 == t771) = false := beq_eq_false_iff_ne.mpr c30
          have c30b1 : (t769 != t771) = true := bne_iff_ne.mpr c30
          have H' := Aside0.mk H
          clear H
          try go_wp2
          have n0_ := Aside0.mk (Kd.R_drew HO766.out)
          have n1_ := Aside0.mk (blk_drew BK759.out)
          have n2_ := Aside0.mk (blk_drew BK767.out)
          have n3_ := Aside0.mk (below_drew1 HB.out)
          clear HO766
          clear BK759
          clear BK767
          clear HB
          have HO766 := n0_
          have BK759 := n1_
          have BK767 := n2_
          have HB := n3_
          clear n0_ n1_ n2_ n3_
          refine start_ (n := 15) (S := fun w' => True) (ds := []) #[false, false, false, false, false, false, false, false, false, false, false, false, false, false, false] (by kernel_rfl) rfl rfl trivial (fun hHeld => ?_); refine with_tabW kimberlitelaw03_CurveValues.tab6 kimberlitelaw03_CurveValues.bits6 (fun HT_ HW_ => ?_)
          generalize w28.drew = w36 at HO766 BK759 BK767 HB hHeld ⊢
          refine pure_ (i := 0) (N := some 41) (v := ?_) (a' := ?_) #[true, false, false, false, false, false, false, false, false, false, false, false, false, false, false] rfl rfl (any_of HT_.out (by kernel_rfl)) (fun _ _ _ h => h) (Or.inl ⟨by rfl, ?_⟩) ?_ ?_
          rotate_left
          · intro w'
            go_simp
            with_reducible rfl
          rotate_left
          · simp only [Act.put, List.setIfInBounds_toArray, List.set_cons_zero, List.set_cons_succ, i64_w, i32_w]
            rfl
          refine pure_ (i := 1) (N := some 42) (v := ?_) (a' := ?_) #[true, true, false, false, false, false, false, false, false, false, false, false, false, false, false] rfl rfl (any_of HT_.out (by kernel_rfl)) (fun _ _ _ h => h) (Or.inl ⟨by rfl, ?_⟩) ?_ ?_
          rotate_left
          · intro w'
            go_simp
            with_reducible rfl
          rotate_left
          · simp only [Act.put, List.setIfInBounds_toArray, List.set_cons_zero, List.set_cons_succ, i64_w, i32_w]
            rfl
          refine pure_ (i := 2) (N := some 43) (v := ?_) (a' := ?_) #[true, true, true, false, false, false, false, false, false, false, false, false, false, false, false] rfl rfl (any_of HT_.out (by kernel_rfl)) (fun _ _ _ h => h) (Or.inl ⟨by rfl, ?_⟩) ?_ ?_
          rotate_left
          · intro w'
            go_simp
            with_reducible rfl
          rotate_left
          · simp only [Act.put, List.setIfInBounds_toArray, List.set_cons_zero, List.set_cons_succ, i64_w, i32_w]
            rfl
          refine pure_ (i := 3) (N := some 44) (v := ?_) (a' := ?_) #[true, true, true, true, false, false, false, false, false, false, false, false, false, false, false] rfl rfl (any_of HT_.out (by kernel_rfl)) (fun _ _ _ h => h) (Or.inl ⟨by rfl, ?_⟩) ?_ ?_
          rotate_left
          · intro w'
            go_simp
            with_reducible rfl
          rotate_left
          · simp only [Act.put, List.setIfInBounds_toArray, List.set_cons_zero, List.set_cons_succ, i64_w, i32_w]
            rfl
          refine pure_ (i := 4) (N := some 45) (v := ?_) (a' := ?_) #[true, true, true, true, true, false, false, false, false, false, false, false, false, false, false] rfl rfl (any_of HT_.out (by kernel_rfl)) (fun _ _ _ h => h) (Or.inl ⟨by rfl, ?_⟩) ?_ ?_
          rotate_left
          · intro w'
            go_simp
            with_reducible rfl
          rotate_left
          · simp only [Act.put, List.setIfInBounds_toArray, List.set_cons_zero, List.set_cons_succ, i64_w, i32_w]
            rfl
          refine pure_ (i := 5) (N := some 46) (v := ?_) (a' := ?_) #[true, true, true, true, true, true, false, false, false, false, false, false, false, false, false] rfl rfl (any_of HT_.out (by kernel_rfl)) (fun _ _ _ h => h) (Or.inl ⟨by rfl, ?_⟩) ?_ ?_
          rotate_left
          · intro w'
            go_simp
            with_reducible rfl
          rotate_left
          · simp only [Act.put, List.setIfInBounds_toArray, List.set_cons_zero, List.set_cons_succ, i64_w, i32_w]
            rfl
          refine pure_ (i := 6) (N := some 47) (v := ?_) (a' := ?_) #[true, true, true, true, true, true, true, false, false, false, false, false, false, false, false] rfl rfl (any_of HT_.out (by kernel_rfl)) (fun _ _ _ h => h) (Or.inl ⟨by rfl, ?_⟩) ?_ ?_
          rotate_left
          · intro w'
            go_simp
            with_reducible rfl
          rotate_left
          · simp only [Act.put, List.setIfInBounds_toArray, List.set_cons_zero, List.set_cons_succ, i64_w, i32_w]
            rfl
          refine pure_ (i := 7) (N := some 48) (v := ?_) (a' := ?_) #[true, true, true, true, true, true, true, true, false, false, false, false, false, false, false] rfl rfl (any_of HT_.out (by kernel_rfl)) (fun _ _ _ h => h) (Or.inl ⟨by rfl, ?_⟩) ?_ ?_
          rotate_left
          · intro w'
            go_simp
            with_reducible rfl
          rotate_left
          · simp only [Act.put, List.setIfInBounds_toArray, List.set_cons_zero, List.set_cons_succ, i64_w, i32_w]
            rfl
          refine pure_ (i := 8) (N := some 49) (v := ?_) (a' := ?_) #[true, true, true, true, true, true, true, true, true, false, false, false, false, false, false] rfl rfl (any_of HT_.out (by kernel_rfl)) (fun _ _ _ h => h) (Or.inl ⟨by rfl, ?_⟩) ?_ ?_
          rotate_left
          · intro w'
            go_simp
            with_reducible rfl
          rotate_left
          · simp only [Act.put, List.setIfInBounds_toArray, List.set_cons_zero, List.set_cons_succ, i64_w, i32_w]
            rfl
          refine pure_ (i := 9) (N := some 50) (v := undef) (a' := ?_) #[true, true, true, true, true, true, true, true, true, true, false, false, false, false, false] rfl rfl (any_of HT_.out (by kernel_rfl)) (fun _ _ _ h => h) (Or.inr ⟨by rfl, rfl⟩) ?_ ?_
          rotate_left
          · simp only [Act.put, List.setIfInBounds_toArray, List.set_cons_zero, List.set_cons_succ, i64_w, i32_w]
            rfl
          refine pure_ (i := 10) (N := some 51) (v := undef) (a' := ?_) #[true, true, true, true, true, true, true, true, true, true, true, false, false, false, false] rfl rfl (any_of HT_.out (by kernel_rfl)) (fun _ _ _ h => h) (Or.inr ⟨by rfl, rfl⟩) ?_ ?_
          rotate_left
          · simp only [Act.put, List.setIfInBounds_toArray, List.set_cons_zero, List.set_cons_succ, i64_w, i32_w]
            rfl
          refine pure_ (i := 11) (N := some 52) (v := undef) (a' := ?_) #[true, true, true, true, true, true, true, true, true, true, true, true, false, false, false] rfl rfl (any_of HT_.out (by kernel_rfl)) (fun _ _ _ h => h) (Or.inr ⟨by rfl, rfl⟩) ?_ ?_
          rotate_left
          · simp only [Act.put, List.setIfInBounds_toArray, List.set_cons_zero, List.set_cons_succ, i64_w, i32_w]
            rfl
          refine pure_ (i := 12) (N := some 53) (v := undef) (a' := ?_) #[true, true, true, true, true, true, true, true, true, true, true, true, true, false, false] rfl rfl (any_of HT_.out (by kernel_rfl)) (fun _ _ _ h => h) (Or.inr ⟨by rfl, rfl⟩) ?_ ?_
          rotate_left
          · simp only [Act.put, List.setIfInBounds_toArray, List.set_cons_zero, List.set_cons_succ, i64_w, i32_w]
            rfl
          refine pure_ (i := 13) (N := some 54) (v := undef) (a' := ?_) #[true, true, true, true, true, true, true, true, true, true, true, true, true, true, false] rfl rfl (any_of HT_.out (by kernel_rfl)) (fun _ _ _ h => h) (Or.inr ⟨by rfl, rfl⟩) ?_ ?_
          rotate_left
          · simp only [Act.put, List.setIfInBounds_toArray, List.set_cons_zero, List.set_cons_succ, i64_w, i32_w]
            rfl
          refine pure_ (i := 14) (N := some 55) (v := ?_) (a' := ?_) #[true, true, true, true, true, true, true, true, true, true, true, true, true, true, true] rfl rfl (any_of HT_.out (by kernel_rfl)) (fun _ _ _ h => h) (Or.inl ⟨by rfl, ?_⟩) ?_ ?_
          rotate_left
          · intro w'
            go_simp
            with_reducible rfl
          rotate_left
          · simp only [Act.put, List.setIfInBounds_toArray, List.set_cons_zero, List.set_cons_succ, i64_w, i32_w]
            rfl
          refine done_ (done_of HT_.out (by kernel_rfl)) ?_
          try go_wp2
          go_meet
          case rel => exact ⟨_, (true), (by first | rfl | (simp; done) | (simp [*]; done)), H', ⟨by have := HJ4.out; first | omega | exact Nat.le_refl _⟩, ⟨nR HO766⟩, ⟨nK BK759⟩, ⟨nK BK767⟩, ⟨nC HB⟩⟩
      · rw [if_neg c29] at H
        have c29b0 : (t768 == t770) = false := beq_eq_false_iff_ne.mpr c29
        have c29b1 : (t768 != t770) = true := bne_iff_ne.mpr c29
        (first | rw [c29b0] | (simp only [i64_w, i32_w]; rw [c29b0]) | skip)
        have H' := Aside0.mk H
        clear H
        try go_wp2
        have n0_ := Aside0.mk (Kd.R_drew HO766.out)
        have n1_ := Aside0.mk (blk_drew BK759.out)
        have n2_ := Aside0.mk (blk_drew BK767.out)
        have n3_ := Aside0.mk (below_drew1 HB.out)
        clear HO766
        clear BK759
        clear BK767
        clear HB
        have HO766 := n0_
        have BK759 := n1_
        have BK767 := n2_
        have HB := n3_
        clear n0_ n1_ n2_ n3_
        refine start_ (n := 15) (S := fun w' => True) (ds := []) #[false, false, false, false, false, false, false, false, false, false, false, false, false, false, false] (by kernel_rfl) rfl rfl trivial (fun hHeld => ?_); refine with_tabW kimberlitelaw03_CurveValues.tab6 kimberlitelaw03_CurveValues.bits6 (fun HT_ HW_ => ?_)
        generalize w28.drew = w37 at HO766 BK759 BK767 HB hHeld ⊢
        refine pure_ (i := 0) (N := some 41) (v := ?_) (a' := ?_) #[true, false, false, false, false, false, false, false, false, false, false, false, false, false, false] rfl rfl (any_of HT_.out (by kernel_rfl)) (fun _ _ _ h => h) (Or.inl ⟨by rfl, ?_⟩) ?_ ?_
        rotate_left
        · intro w'
          go_simp
          with_reducible rfl
        rotate_left
        · simp only [Act.put, List.setIfInBounds_toArray, List.set_cons_zero, List.set_cons_succ, i64_w, i32_w]
          rfl
        refine pure_ (i := 1) (N := some 42) (v := ?_) (a' := ?_) #[true, true, false, false, false, false, false, false, false, false, false, false, false, false, false] rfl rfl (any_of HT_.out (by kernel_rfl)) (fun _ _ _ h => h) (Or.inl ⟨by rfl, ?_⟩) ?_ ?_
        rotate_left
        · intro w'
          go_simp
          with_reducible rfl
        rotate_left
        · simp only [Act.put, List.setIfInBounds_toArray, List.set_cons_zero, List.set_cons_succ, i64_w, i32_w]
          rfl
        refine pure_ (i := 2) (N := some 43) (v := ?_) (a' := ?_) #[true, true, true, false, false, false, false, false, false, false, false, false, false, false, false] rfl rfl (any_of HT_.out (by kernel_rfl)) (fun _ _ _ h => h) (Or.inl ⟨by rfl, ?_⟩) ?_ ?_
        rotate_left
        · intro w'
          go_simp
          with_reducible rfl
        rotate_left
        · simp only [Act.put, List.setIfInBounds_toArray, List.set_cons_zero, List.set_cons_succ, i64_w, i32_w]
          rfl
        refine pure_ (i := 3) (N := some 44) (v := ?_) (a' := ?_) #[true, true, true, true, false, false, false, false, false, false, false, false, false, false, false] rfl rfl (any_of HT_.out (by kernel_rfl)) (fun _ _ _ h => h) (Or.inl ⟨by rfl, ?_⟩) ?_ ?_
        rotate_left
        · intro w'
          go_simp
          with_reducible rfl
        rotate_left
        · simp only [Act.put, List.setIfInBounds_toArray, List.set_cons_zero, List.set_cons_succ, i64_w, i32_w]
          rfl
        refine pure_ (i := 4) (N := some 45) (v := undef) (a' := ?_) #[true, true, true, true, true, false, false, false, false, false, false, false, false, false, false] rfl rfl (any_of HT_.out (by kernel_rfl)) (fun _ _ _ h => h) (Or.inr ⟨by rfl, rfl⟩) ?_ ?_
        rotate_left
        · simp only [Act.put, List.setIfInBounds_toArray, List.set_cons_zero, List.set_cons_succ, i64_w, i32_w]
          rfl
        refine pure_ (i := 5) (N := some 46) (v := undef) (a' := ?_) #[true, true, true, true, true, true, false, false, false, false, false, false, false, false, false] rfl rfl (any_of HT_.out (by kernel_rfl)) (fun _ _ _ h => h) (Or.inr ⟨by rfl, rfl⟩) ?_ ?_
        rotate_left
        · simp only [Act.put, List.setIfInBounds_toArray, List.set_cons_zero, List.set_cons_succ, i64_w, i32_w]
          rfl
        refine pure_ (i := 6) (N := some 47) (v := undef) (a' := ?_) #[true, true, true, true, true, true, true, false, false, false, false, false, false, false, false] rfl rfl (any_of HT_.out (by kernel_rfl)) (fun _ _ _ h => h) (Or.inr ⟨by rfl, rfl⟩) ?_ ?_
        rotate_left
        · simp only [Act.put, List.setIfInBounds_toArray, List.set_cons_zero, List.set_cons_succ, i64_w, i32_w]
          rfl
        refine pure_ (i := 7) (N := some 48) (v := ?_) (a' := ?_) #[true, true, true, true, true, true, true, true, false, false, false, false, false, false, false] rfl rfl (any_of HT_.out (by kernel_rfl)) (fun _ _ _ h => h) (Or.inl ⟨by rfl, ?_⟩) ?_ ?_
        rotate_left
        · intro w'
          go_simp
          with_reducible rfl
        rotate_left
        · simp only [Act.put, List.setIfInBounds_toArray, List.set_cons_zero, List.set_cons_succ, i64_w, i32_w]
          rfl
        refine pure_ (i := 8) (N := some 49) (v := ?_) (a' := ?_) #[true, true, true, true, true, true, true, true, true, false, false, false, false, false, false] rfl rfl (any_of HT_.out (by kernel_rfl)) (fun _ _ _ h => h) (Or.inl ⟨by rfl, ?_⟩) ?_ ?_
        rotate_left
        · intro w'
          go_simp
          with_reducible rfl
        rotate_left
        · simp only [Act.put, List.setIfInBounds_toArray, List.set_cons_zero, List.set_cons_succ, i64_w, i32_w]
          rfl
        refine pure_ (i := 9) (N := some 50) (v := undef) (a' := ?_) #[true, true, true, true, true, true, true, true, true, true, false, false, false, false, false] rfl rfl (any_of HT_.out (by kernel_rfl)) (fun _ _ _ h => h) (Or.inr ⟨by rfl, rfl⟩) ?_ ?_
        rotate_left
        · simp only [Act.put, List.setIfInBounds_toArray, List.set_cons_zero, List.set_cons_succ, i64_w, i32_w]
          rfl
        refine pure_ (i := 10) (N := some 51) (v := undef) (a' := ?_) #[true, true, true, true, true, true, true, true, true, true, true, false, false, false, false] rfl rfl (any_of HT_.out (by kernel_rfl)) (fun _ _ _ h => h) (Or.inr ⟨by rfl, rfl⟩) ?_ ?_
        rotate_left
        · simp only [Act.put, List.setIfInBounds_toArray, List.set_cons_zero, List.set_cons_succ, i64_w, i32_w]
          rfl
        refine pure_ (i := 11) (N := some 52) (v := undef) (a' := ?_) #[true, true, true, true, true, true, true, true, true, true, true, true, false, false, false] rfl rfl (any_of HT_.out (by kernel_rfl)) (fun _ _ _ h => h) (Or.inr ⟨by rfl, rfl⟩) ?_ ?_
        rotate_left
        · simp only [Act.put, List.setIfInBounds_toArray, List.set_cons_zero, List.set_cons_succ, i64_w, i32_w]
          rfl
        refine pure_ (i := 12) (N := some 53) (v := undef) (a' := ?_) #[true, true, true, true, true, true, true, true, true, true, true, true, true, false, false] rfl rfl (any_of HT_.out (by kernel_rfl)) (fun _ _ _ h => h) (Or.inr ⟨by rfl, rfl⟩) ?_ ?_
        rotate_left
        · simp only [Act.put, List.setIfInBounds_toArray, List.set_cons_zero, List.set_cons_succ, i64_w, i32_w]
          rfl
        refine pure_ (i := 13) (N := some 54) (v := undef) (a' := ?_) #[true, true, true, true, true, true, true, true, true, true, true, true, true, true, false] rfl rfl (any_of HT_.out (by kernel_rfl)) (fun _ _ _ h => h) (Or.inr ⟨by rfl, rfl⟩) ?_ ?_
        rotate_left
        · simp only [Act.put, List.setIfInBounds_toArray, List.set_cons_zero, List.set_cons_succ, i64_w, i32_w]
          rfl
        refine pure_ (i := 14) (N := some 55) (v := ?_) (a' := ?_) #[true, true, true, true, true, true, true, true, true, true, true, true, true, true, true] rfl rfl (any_of HT_.out (by kernel_rfl)) (fun _ _ _ h => h) (Or.inl ⟨by rfl, ?_⟩) ?_ ?_
        rotate_left
        · intro w'
          go_simp
          with_reducible rfl
        rotate_left
        · simp only [Act.put, List.setIfInBounds_toArray, List.set_cons_zero, List.set_cons_succ, i64_w, i32_w]
          rfl
        refine done_ (done_of HT_.out (by kernel_rfl)) ?_
        try go_wp2
        go_meet
        case rel => exact ⟨_, (true), (by first | rfl | (simp; done) | (simp [*]; done)), H', ⟨by have := HJ4.out; first | omega | exact Nat.le_refl _⟩, ⟨nR HO766⟩, ⟨nK BK759⟩, ⟨nK BK767⟩, ⟨nC HB⟩⟩
     case rest =>
      as_aux_lemma =>
      clear HC19
      try clear c1
      try clear c2
      try clear p2
      try clear c3
      try clear c8
      try clear c13
      try clear c16
      try clear c17
      try clear c22
      try clear c23
      try clear c27
      try clear c28
      try clear c29
      try clear c29b0
      try clear c29b1
      try clear c30
      try clear c30b0
      try clear c30b1
      try clear hcz11_0
      try clear hcz11_1
      try clear hcz11_2
      try clear hcz20_0
      try clear hcz20_1
      try clear hcz20_2
      try clear hcz24_0
      try clear hcz24_1
      try clear hcz24_2
      try clear hcz27_0
      try clear hcz27_1
      try clear hcz27_2
      try clear hcz9_0
      try clear hcz9_1
      try clear hcz9_2
      try clear hfz11_0
      try clear hfz11_1
      try clear hfz11_2
      try clear hfz20_0
      try clear hfz20_1
      try clear hfz20_2
      try clear hfz24_0
      try clear hfz24_1
      try clear hfz24_2
      try clear hfz27_0
      try clear hfz27_1
      try clear hfz27_2
      try clear hfz9_0
      try clear hfz9_1
      try clear hfz9_2
      try clear p2
      obtain ⟨kq, x55_18, rfl, HA, HJ18, HO_768002, BK759, BK767, HB⟩ := hcut
      cases kq with
      | zero => exact absurd HA.out (by simp [kimberlitelaw03_CurveValues.j1])
      | succ kj18 =>
       have H := HA.out
       clear HA
       simp only [kimberlitelaw03_CurveValues.j1] at H
       by_cases c38 : x55_18 = true
       · subst c38
         have H1 : (some false) = some r := by rw [if_pos rfl] at H; exact H
         clear H
         have H := H1
         clear H1
         obtain rfl := Option.some.inj H
         go_wp2
         go_ret
         exact ⟨by first | rfl | (simp [errW_none, errW_some] <;> rfl) | (simp [*, errW_none, errW_some] <;> rfl), nC HB⟩
       · replace c38 := Bool.eq_false_iff.mpr c38
         subst c38
         have H1 : (if 0 ≤ (l3.length : Int) then (if ((l3.length : Int) : Int).toNat ≤ 35184372088832 then (kimberlitelaw03_CurveValues.l0 kj18 a2 l3 (List.replicate ((l3.length : Int) : Int).toNat 0) 0 a0_0 a0_1 l0_2 t762 t763 t764) else (none)) else (none)) = some r := by rw [if_neg (show ¬ (false = true) by decide)] at H; exact H
         clear H
         have H := H1
         clear H1
         by_cases c39 : 0 ≤ (l3.length : Int)
         · rw [if_pos c39] at H
           have c39b0 := eq_true c39
           have c39b1 : decide (0 ≤ (l3.length : Int)) = true := decide_eq_true c39
           clear c39
           by_cases c40 : ((l3.length : Int) : Int).toNat ≤ 35184372088832
           · rw [if_pos c40] at H
             have c40b0 := eq_true c40
             have c40b1 : decide (((l3.length : Int) : Int).toNat ≤ 35184372088832) = true := decide_eq_true c40
             clear c40
             obtain ⟨y774, hy774⟩ : ∃ y_ : List Int, y_ = (List.replicate ((l3.length : Int) : Int).toNat 0) := ⟨_, rfl⟩
             replace H : (kimberlitelaw03_CurveValues.l0 kj18 a2 l3 y774 0 a0_0 a0_1 l0_2 t762 t763 t764) = some r := by first | (rw [hy774]; with_reducible exact H) | (have H2_ := (Option.bind_some _ _).symm.trans H; rw [hy774]; with_reducible exact H2_) | (have H2_ := (Option.bind_some _ _).symm.trans H; with_reducible exact H2_) | with_reducible exact H | (rw [hy774]; exact H) | exact H
             have Ny774 := Aside0.mk hy774
             clear hy774
             have H' := Aside0.mk H
             clear H
             go_wp2_with (first | ((with_reducible refine gate_dst (N := 58) rfl ?_); (try (refine gate_guard (by rfl) ?_; dsimp only)); refine Kd.R_make (Kd.int .i64) _ 3 rfl (N := 58) rfl 22 _ _ rfl (l3.length : Int) rfl rfl Try.underlying22 (.int .i64 0) 8 info3 rfl (by decide) (by omega) 0 (ok := fun _ => True) (okp := fun _ => True) rfl (fun _ hk => hk) trivial (of_decide_eq_true (by first | (with_reducible assumption) | assumption)) (Nat.le_trans (Nat.mul_le_mul_right _ (of_decide_eq_true (by first | (with_reducible assumption) | assumption) : (l3.length : Int).toNat ≤ 35184372088832)) (by omega)) (Below.refl _ _) (Nat.le_refl _) ?_; intro v775 w41 ho42 hb hg_ hnew_; clear hg_ hnew_; (first | rw [← Ny774.out] at ho42 | (simp only [Int.reduceToNat] at ho42; rw [← Ny774.out] at ho42)); have n0_ := Aside0.mk (Kd.R_elder' (nR HO_768002) (Kd.R_base ho42) hb); have n1_ := Aside0.mk (Kd.R_lower (Kd.R_new' ho42 (Kd.R_lt (nR HO_768002))) (below_size (nC HB))); have n2_ := Aside0.mk (nB BK759 hb); have n3_ := Aside0.mk (nB BK767 hb); have n4_ := Aside0.mk (below_step (nC HB) hb); clear HO_768002; clear BK759; clear BK767; clear HB; have HO_768002 := n0_; have HO776 := n1_; have BK759 := n2_; have BK767 := n3_; have HB := n4_; clear n0_ n1_ n2_ n3_ n4_; clear hb ho42))
             go_loopg [15] kj18 (fun kq v15 w' => ∃ (x14_3 : List Int) (x15_3 : Int), v15 = .int .i64 x15_3 ∧ Aside0 (kimberlitelaw03_CurveValues.l0 kq a2 l3 x14_3 x15_3 a0_0 a0_1 l0_2 t762 t763 t764 = some r) ∧ Aside0 (kq ≤ kj18) ∧ Aside0 (Kd.R (Kd.int .i64) 3 w' w.heap.size (fun k_ => some k_ ≠ ((.slice Ao25 t764.length co25) : Value).ownBlock) v775 x14_3) ∧ Aside0 (Kd.R (Kd.int .i64) 3 w' w.heap.size (fun k_ => some k_ ≠ (v775 : Value).ownBlock) (.slice Ao25 t764.length co25) t764) ∧ Aside0 (w'.heap[gb759]? = some (.cells #[.int .i64 a0_0, .int .i64 a0_1, (.slice A0_2 l0_2.length c0_2)] 24 (0, 0))) ∧ Aside0 (w'.heap[gb767]? = some (.cells #[.int .i64 t762, .int .i64 t763, (.slice Ao25 t764.length co25)] 24 (0, 0))) ∧ Aside0 (Below w.heap.size w w'))
             case atStart => exact ⟨(y774), (0), (by first | rfl | (simp; done) | (simp [*]; done)), H', ⟨Nat.le_refl _⟩, ⟨by (with_reducible repeat (first | apply Kd.R_alloc | apply Kd.R_drewN | apply Kd.R_drew)); exact Kd.R_mono HO776.out (fun _ hk => hk.2)⟩, ⟨by (with_reducible repeat (first | apply Kd.R_alloc | apply Kd.R_drewN | apply Kd.R_drew)); exact Kd.R_mono HO_768002.out (fun _ hk => hk.2)⟩, ⟨nK BK759⟩, ⟨nK BK767⟩, ⟨nC HB⟩⟩
             case round =>
              as_aux_lemma =>
              clear H'
              try clear c1
              try clear c2
              try clear p2
              try clear c3
              try clear c4
              try clear c8
              try clear c13
              try clear c16
              try clear c17
              try clear c22
              try clear c23
              try clear c27
              try clear c28
              try clear c29
              try clear c29b0
              try clear c29b1
              try clear c30
              try clear c30b0
              try clear c30b1
              try clear c38
              try clear c39
              try clear c39b0
              try clear c39b1
              try clear c40
              try clear c40b0
              try clear c40b1
              try clear hcz11_0
              try clear hcz11_1
              try clear hcz11_2
              try clear hcz20_0
              try clear hcz20_1
              try clear hcz20_2
              try clear hcz24_0
              try clear hcz24_1
              try clear hcz24_2
              try clear hcz27_0
              try clear hcz27_1
              try clear hcz27_2
              try clear hcz9_0
              try clear hcz9_1
              try clear hcz9_2
              try clear hfz11_0
              try clear hfz11_1
              try clear hfz11_2
              try clear hfz20_0
              try clear hfz20_1
              try clear hfz20_2
              try clear hfz24_0
              try clear hfz24_1
              try clear hfz24_2
              try clear hfz27_0
              try clear hfz27_1
              try clear hfz27_2
              try clear hfz9_0
              try clear hfz9_1
              try clear hfz9_2
              try clear p2
              obtain ⟨x14_3, x15_3, rfl, HA, HK3, HO_14, HO_768002, BK759, BK767, HB⟩ := hrel
              cases gk with
              | zero => exact absurd HA.out (by simp [kimberlitelaw03_CurveValues.l0])
              | succ k3 =>
               have H := HA.out
               clear HA
               simp only [kimberlitelaw03_CurveValues.l0] at H
               by_cases c43 : x15_3 < (l3.length : Int)
               · rw [if_pos c43] at H
                 have c43b0 : decide (x15_3 < (l3.length : Int)) = true := decide_eq_true c43
                 clear c43
                 by_cases c44 : 0 ≤ x15_3
                 · rw [if_pos c44] at H
                   have c44b0 : decide (0 ≤ x15_3) = true := decide_eq_true c44
                   clear c44
                   by_cases c45 : x15_3 < (x14_3.length : Int)
                   · rw [if_pos c45] at H
                     have c45b0 : decide (x15_3 < (x14_3.length : Int)) = true := decide_eq_true c45
                     clear c45
                     obtain ⟨y778, hy778⟩ : ∃ y_ : List Int, y_ = (x14_3.set (x15_3 : Int).toNat (rd l3 x15_3)) := ⟨_, rfl⟩
                     replace H : (kimberlitelaw03_CurveValues.l0 k3 a2 l3 y778 (wrap64 (x15_3 + 1)) a0_0 a0_1 l0_2 t762 t763 t764) = some r := by first | (rw [hy778]; with_reducible exact H) | (have H2_ := (Option.bind_some _ _).symm.trans H; rw [hy778]; with_reducible exact H2_) | (have H2_ := (Option.bind_some _ _).symm.trans H; with_reducible exact H2_) | with_reducible exact H | (rw [hy778]; exact H) | exact H
                     have Ny778 := Aside0.mk hy778
                     clear hy778
                     have H' := Aside0.mk H
                     clear H
                     have p777 : 0 ≤ (x15_3 : Int) := of_decide_eq_true (by first | (with_reducible assumption) | assumption)
                     have q777 : x15_3 < (l3.length : Int) := of_decide_eq_true (by first | (with_reducible assumption) | assumption)
                     obtain ⟨ad777, e777, hx777_0⟩ := Kd.at_int HR3.out x15_3 p777 q777
                     cases e777
                     replace hx777_0 := (HB.out.cell (World.block_lt_of_cell? w _ hx777_0)).trans hx777_0
                     replace p777 := eq_true p777
                     replace q777 := eq_true q777
                     have p46 : 0 ≤ (x15_3 : Int) := of_decide_eq_true (by first | (with_reducible assumption) | assumption)
                     have q46 : (x15_3 : Int) < ((x14_3.length : Int) : Int) := of_decide_eq_true (by first | (with_reducible assumption) | assumption)
                     obtain ⟨go46, co46, eo46, gb46, gl46, cl46, HG46⟩ := Kd.R_form HO_14.out (by omega)
                     (first | cases eo46 | (injection eo46 with ea_ en_ ec_; (first | subst ea_ | (injection ea_ with ea_; subst ea_)); subst ec_; clear en_))
                     have GB46 := Aside0.mk gb46
                     have GG46 := Aside0.mk HG46
                     clear gb46 gl46 HG46
                     obtain ⟨hx46_0, hf46_0⟩ := Kd.R_celln 0 HO_14.out (x15_3 : Int) p46 q46
                     replace p46 := eq_true p46
                     replace q46 := eq_true q46
                     have HP47 := Kd.R_putg HO_14.out (x15_3 : Int) (rd l3 x15_3)
                     go_wp2_with (first | ((with_reducible refine gate_store (t := 3) (p := 71) rfl ?_); refine store_event (t := 3) (p := 71) (v := ?vo_w48) (w1 := (wr.setCell ⟨go46, (x15_3 : Int).toNat, none⟩ (.int .i64 (rd l3 x15_3)))) ?hg ?ho ?hn ?hr ?_; (case ho => rfl); (case hg => rfl); (case hn => rfl); (case hr => first | (go_simp; done) | (go_simp; rfl)); intro w48 hw; have hg : wr.grownBy w48 (some go46) := (by rw [hw]; exact HP47.2); have hp_ : Kd.R (Kd.int .i64) 3 w48 w.heap.size (fun k_ => some k_ ≠ (.slice Ao25 t764.length co25 : Value).ownBlock) (.slice (some ⟨go46, 0, none⟩) x14_3.length co46) y778 := (by rw [hw, Ny778.out]; exact HP47.1); clear HP47; have n0_ := Aside0.mk (hp_); have n1_ := Aside0.mk (Kd.R_after (v := (.slice (some ⟨go46, 0, none⟩) x14_3.length co46)) (v1 := (.slice (some ⟨go46, 0, none⟩) x14_3.length co46)) (ok := (fun _ => True)) (by (with_reducible repeat (first | apply Kd.R_alloc | apply Kd.R_drewN | apply Kd.R_drew)); exact Kd.R_mono HO_768002.out (fun _ hk => ⟨trivial, hk⟩)) hg (.inl rfl)); have n2_ := Aside0.mk (blk_grown (g := gb759) (o := .cells #[.int .i64 a0_0, .int .i64 a0_1, .slice A0_2 l0_2.length c0_2] 24 (0, 0)) (nK BK759) hg (Kd.R_ne HO_14.out BK759.out (by decide))); have n3_ := Aside0.mk (blk_grown (g := gb767) (o := .cells #[.int .i64 t762, .int .i64 t763, .slice Ao25 t764.length co25] 24 (0, 0)) (nK BK767) hg (Kd.R_ne HO_14.out BK767.out (by decide))); have n4_ := Aside0.mk ((by rw [hw]; exact below_set (HB.out) GB46.out : Below w.heap.size w w48)); clear HO_14; clear HO_768002; clear BK759; clear BK767; clear HB; have HO_14 := n0_; have HO_768002 := n1_; have BK759 := n2_; have BK767 := n3_; have HB := n4_; clear n0_ n1_ n2_ n3_ n4_; clear hg hw hp_))
                     go_roundg k3
                     case measure => have := HJ4.out; have := HJ18.out; have := HK3.out; omega
                     case rel => exact ⟨(y778), (wrap64 (x15_3 + 1)), (by first | rfl | (simp; done) | (simp [*]; done)), H', ⟨by have := HJ4.out; have := HJ18.out; have := HK3.out; omega⟩, ⟨nR HO_14⟩, ⟨by (with_reducible repeat (first | apply Kd.R_alloc | apply Kd.R_drewN | apply Kd.R_drew)); exact Kd.R_mono HO_768002.out (fun _ hk => hk.2)⟩, ⟨nK BK759⟩, ⟨nK BK767⟩, ⟨nC HB⟩⟩
                   · rw [if_neg c45] at H
                     exact absurd H (by simp)
                 · rw [if_neg c44] at H
                   exact absurd H (by simp)
               · rw [if_neg c43] at H
                 have c43b0 : decide (x15_3 < (l3.length : Int)) = false := decide_eq_false c43
                 clear c43
                 replace H := Option.bind_eq_some_iff.mp H
                 obtain ⟨⟨t779, t780, t781, t784⟩, A490, H⟩ := H
                 replace H : ((kimberliteref03_Of.f k3 a2 l3).bind fun bt786 => ((kimberlitelaw03_told.f k3 t779 t780 t781 t784 bt786.1 bt786.2.1 bt786.2.2.1 bt786.2.2.2).bind fun bt793 => (if bt793.1 = true then ((kimberlitelaw03_same.f k3 x14_3 l3).bind fun t795 => (if t795 = true then ((kimberlitelaw03_alike.f k3 a0_0 a0_1 l0_2 t762 t763 t764).bind fun t796 => (if t796 = true then ((kimberlitelaw03_alive.f).bind fun t797 => (some t797)) else (some false))) else (some false))) else (some false)))) = some r := H
                 have A49 := Aside0.mk A490
                 clear A490
                 replace H := Option.bind_eq_some_iff.mp H
                 obtain ⟨⟨t786, t787, t788, t791⟩, A500, H⟩ := H
                 replace H : ((kimberlitelaw03_told.f k3 t779 t780 t781 t784 t786 t787 t788 t791).bind fun bt793 => (if bt793.1 = true then ((kimberlitelaw03_same.f k3 x14_3 l3).bind fun t795 => (if t795 = true then ((kimberlitelaw03_alike.f k3 a0_0 a0_1 l0_2 t762 t763 t764).bind fun t796 => (if t796 = true then ((kimberlitelaw03_alive.f).bind fun t797 => (some t797)) else (some false))) else (some false))) else (some false))) = some r := H
                 have A50 := Aside0.mk A500
                 clear A500
                 replace H := Option.bind_eq_some_iff.mp H
                 obtain ⟨⟨t793, t794⟩, A510, H⟩ := H
                 replace H : (if t793 = true then ((kimberlitelaw03_same.f k3 x14_3 l3).bind fun t795 => (if t795 = true then ((kimberlitelaw03_alike.f k3 a0_0 a0_1 l0_2 t762 t763 t764).bind fun t796 => (if t796 = true then ((kimberlitelaw03_alive.f).bind fun t797 => (some t797)) else (some false))) else (some false))) else (some false)) = some r := H
                 have A51 := Aside0.mk A510
                 clear A510
                 by_cases c52 : t793 = true
                 · subst c52
                   have H1 : ((kimberlitelaw03_same.f k3 x14_3 l3).bind fun t795 => (if t795 = true then ((kimberlitelaw03_alike.f k3 a0_0 a0_1 l0_2 t762 t763 t764).bind fun t796 => (if t796 = true then ((kimberlitelaw03_alive.f).bind fun t797 => (some t797)) else (some false))) else (some false))) = some r := by rw [if_pos rfl] at H; exact H
                   clear H
                   have H := H1
                   clear H1
                   replace H := Option.bind_eq_some_iff.mp H
                   obtain ⟨t795, A530, H⟩ := H
                   replace H : (if t795 = true then ((kimberlitelaw03_alike.f k3 a0_0 a0_1 l0_2 t762 t763 t764).bind fun t796 => (if t796 = true then ((kimberlitelaw03_alive.f).bind fun t797 => (some t797)) else (some false))) else (some false)) = some r := H
                   have A53 := Aside0.mk A530
                   clear A530
                   by_cases c54 : t795 = true
                   · subst c54
                     have H1 : ((kimberlitelaw03_alike.f k3 a0_0 a0_1 l0_2 t762 t763 t764).bind fun t796 => (if t796 = true then ((kimberlitelaw03_alive.f).bind fun t797 => (some t797)) else (some false))) = some r := by rw [if_pos rfl] at H; exact H
                     clear H
                     have H := H1
                     clear H1
                     replace H := Option.bind_eq_some_iff.mp H
                     obtain ⟨t796, A550, H⟩ := H
                     replace H : (if t796 = true then ((kimberlitelaw03_alive.f).bind fun t797 => (some t797)) else (some false)) = some r := H
                     have A55 := Aside0.mk A550
                     clear A550
                     by_cases c56 : t796 = true
                     · subst c56
                       have H1 : ((kimberlitelaw03_alive.f).bind fun t797 => (some t797)) = some r := by rw [if_pos rfl] at H; exact H
                       clear H
                       have H := H1
                       clear H1
                       replace H := Option.bind_eq_some_iff.mp H
                       obtain ⟨t797, A570, H⟩ := H
                       replace H : (some t797) = some r := H
                       have A57 := Aside0.mk A570
                       clear A570
                       obtain rfl := Option.some.inj H
                       obtain ⟨Ao58, co58, eo58⟩ := Kd.R_slice HO_14.out
                       subst eo58
                       go_wp2_with (first | ((with_reducible refine gate_callee (f := 31) rfl ?_); refine goesL_ (some 75) rfl rfl Try.func31 (by kernel_rfl) rfl #[.int .i64 a2, .slice Ao58 x14_3.length co58] rfl (by (try simp only [List.map_toArray, List.map_cons, List.map_nil]); first | done | rfl | (simp only [List.length_drop, List.length_take]; rfl)) ?_; (with_reducible refine (curve_Of.calls k3 a2 _ _ x14_3 t779 t780 t781 t784 _ ?side1 ?side2 A49.out).mono ?_); (case side1 => repeat (first | exact (Kd.R_reads' HO_14.out).2.2 | (with_reducible refine Kd.C_alloc ?_ _) | (with_reducible refine Kd.C_drewN ?_ _) | (with_reducible refine Kd.C_drew ?_))); (case side2 => exact (Kd.R_reads' HO_14.out).2.1); rintro e w59 ⟨v782, rfl, ho0, hb⟩; refine ⟨_, rfl, ?_⟩; have n0_ := Aside0.mk (Kd.R_elder' (nR HO_14) (Kd.R_base ho0) hb); have n1_ := Aside0.mk (Kd.R_elder' (nR HO_768002) (Kd.R_base ho0) hb); have n2_ := Aside0.mk (Kd.R_lower (Kd.R_new' (Kd.R_new' ho0 (Kd.R_lt (nR HO_14))) (Kd.R_lt (nR HO_768002))) (below_size (nC HB))); have n3_ := Aside0.mk (nB BK759 hb); have n4_ := Aside0.mk (nB BK767 hb); have n5_ := Aside0.mk (below_step (nC HB) hb); clear HO_14; clear HO_768002; clear BK759; clear BK767; clear HB; have HO_14 := n0_; have HO_768002 := n1_; have HO783 := n2_; have BK759 := n3_; have BK767 := n4_; have HB := n5_; clear n0_ n1_ n2_ n3_ n4_ n5_; (try clear hb); (try clear hb2); (try clear hk); (try clear hi); (try clear ho0)) | ((with_reducible refine gate_dst (N := 16) rfl ?_); (try (refine gate_guard (by rfl) ?_; dsimp only)); refine box_event ?hg (N := 16) ?hd (cs := #[.int .i64 0, .int .i64 0, .slice none 0 0]) (t := 24) ?hr ?_; (case hd => rfl); (case hg => rfl); (case hr => first | (go_simp; done) | (go_simp; rfl)); intro gb785 hg w60 hbox hb; have n0_ := Aside0.mk (Kd.R_below (nR HO_14) hb); have n1_ := Aside0.mk (Kd.R_below (nR HO_768002) hb); have n2_ := Aside0.mk (Kd.R_below (nR HO783) hb); have n3_ := Aside0.mk (nB BK759 hb); have n4_ := Aside0.mk (nB BK767 hb); have n5_ := Aside0.mk (below_step (nC HB) hb); have n6_ := Aside0.mk (hbox); have n7_ := Aside0.mk ((by rw [hg]; exact (below_size (nC HB)) : w.heap.size ≤ gb785)); have n8_ := Aside0.mk ((by rw [hg]; exact (below_size (nC HB)) : w.heap.size ≤ gb785)); have n9_ := Aside0.mk ((by rw [hg]; exact Nat.ne_of_lt (blk_lt (g := gb759) (o := .cells #[.int .i64 a0_0, .int .i64 a0_1, .slice A0_2 l0_2.length c0_2] 24 (0, 0)) (nK BK759)) : gb759 ≠ gb785)); have n10_ := Aside0.mk ((by rw [hg]; exact Nat.ne_of_gt (blk_lt (g := gb759) (o := .cells #[.int .i64 a0_0, .int .i64 a0_1, .slice A0_2 l0_2.length c0_2] 24 (0, 0)) (nK BK759)) : gb785 ≠ gb759)); have n11_ := Aside0.mk ((by rw [hg]; exact Nat.ne_of_lt (blk_lt (g := gb767) (o := .cells #[.int .i64 t762, .int .i64 t763, .slice Ao25 t764.length co25] 24 (0, 0)) (nK BK767)) : gb767 ≠ gb785)); have n12_ := Aside0.mk ((by rw [hg]; exact Nat.ne_of_gt (blk_lt (g := gb767) (o := .cells #[.int .i64 t762, .int .i64 t763, .slice Ao25 t764.length co25] 24 (0, 0)) (nK BK767)) : gb785 ≠ gb767)); clear HO_14; clear HO_768002; clear HO783; clear BK759; clear BK767; clear HB; have HO_14 := n0_; have HO_768002 := n1_; have HO783 := n2_; have BK759 := n3_; have BK767 := n4_; have HB := n5_; have BK785 := n6_; have GW785 := n7_; have GE785 := n8_; have NB759_785 := n9_; have NB785_759 := n10_; have NB767_785 := n11_; have NB785_767 := n12_; clear n0_ n1_ n2_ n3_ n4_ n5_ n6_ n7_ n8_ n9_ n10_ n11_ n12_; clear hb hbox hg; have hnb61 := NB785_759.out; have hnc61 := NB759_785.out; have hnb62 := NB785_767.out; have hnc62 := NB767_785.out; have hcz63_0 : w60.cell? ⟨gb785, 0, none⟩ = some (.int .i64 0) := (blk_cell BK785.out 0).trans rfl; have hcz63_1 : w60.cell? ⟨gb785, 1, none⟩ = some (.int .i64 0) := (blk_cell BK785.out 1).trans rfl; have hcz63_2 : w60.cell? ⟨gb785, 2, none⟩ = some (.slice none 0 0) := (blk_cell BK785.out 2).trans rfl; have hfz63_0 := blk_frozen BK785.out 0; have hfz63_1 := blk_frozen BK785.out 1; have hfz63_2 := blk_frozen BK785.out 2; obtain ⟨Ao64, co64, eo64⟩ := Kd.R_slice HO783.out; subst eo64) | ((with_reducible refine gate_callee (f := 32) rfl ?_); refine goesL_ (some 81) rfl rfl Try.func32 (by kernel_rfl) rfl #[.int .i64 a2, .slice A3 l3.length c3] rfl (by (try simp only [List.map_toArray, List.map_cons, List.map_nil]); first | done | rfl | (simp only [List.length_drop, List.length_take]; rfl)) ?_; (with_reducible refine (kimberliteref03_Of.calls k3 a2 _ _ l3 t786 t787 t788 t791 _ ?side1 ?side2 A50.out).mono ?_); (case side1 => exact Kd.C_below HR3.out (nC HB)); (case side2 => exact HC3.out); rintro e w65 ⟨v789, rfl, ho0, hb⟩; refine ⟨_, rfl, ?_⟩; have n0_ := Aside0.mk (Kd.R_elder' (by (with_reducible repeat (first | apply Kd.R_alloc | apply Kd.R_drewN | apply Kd.R_drew)); exact (Kd.R_mono (Kd.R_far (p := ⟨gb785, 2, none⟩) (Kd.R_far (p := ⟨gb785, 1, none⟩) (Kd.R_far (p := ⟨gb785, 0, none⟩) (Kd.R_types HO_14.out BK785.out (by decide)) (fun _ hk => hk.2) (.int .i64 t779)) (fun _ hk => hk.2) (.int .i64 t780)) (fun _ hk => hk.2) (.slice Ao64 t781.length co64)) (fun _ h_ => h_.1))) (Kd.R_base ho0) hb); have n1_ := Aside0.mk (Kd.R_elder' (by (with_reducible repeat (first | apply Kd.R_alloc | apply Kd.R_drewN | apply Kd.R_drew)); exact (Kd.R_mono (Kd.R_far (p := ⟨gb785, 2, none⟩) (Kd.R_far (p := ⟨gb785, 1, none⟩) (Kd.R_far (p := ⟨gb785, 0, none⟩) (Kd.R_types HO_768002.out BK785.out (by decide)) (fun _ hk => hk.2) (.int .i64 t779)) (fun _ hk => hk.2) (.int .i64 t780)) (fun _ hk => hk.2) (.slice Ao64 t781.length co64)) (fun _ h_ => h_.1))) (Kd.R_base ho0) hb); have n2_ := Aside0.mk (Kd.R_elder' (by (with_reducible repeat (first | apply Kd.R_alloc | apply Kd.R_drewN | apply Kd.R_drew)); exact (Kd.R_mono (Kd.R_far (p := ⟨gb785, 2, none⟩) (Kd.R_far (p := ⟨gb785, 1, none⟩) (Kd.R_far (p := ⟨gb785, 0, none⟩) (Kd.R_types HO783.out BK785.out (by decide)) (fun _ hk => hk.2) (.int .i64 t779)) (fun _ hk => hk.2) (.int .i64 t780)) (fun _ hk => hk.2) (.slice Ao64 t781.length co64)) (fun _ h_ => h_.1))) (Kd.R_base ho0) hb); have n3_ := Aside0.mk (Kd.R_lower (Kd.R_new' (Kd.R_new' (Kd.R_new' ho0 (Kd.R_lt (by (with_reducible repeat (first | apply Kd.R_alloc | apply Kd.R_drewN | apply Kd.R_drew)); exact (Kd.R_mono (Kd.R_far (p := ⟨gb785, 2, none⟩) (Kd.R_far (p := ⟨gb785, 1, none⟩) (Kd.R_far (p := ⟨gb785, 0, none⟩) (Kd.R_types HO_14.out BK785.out (by decide)) (fun _ hk => hk.2) (.int .i64 t779)) (fun _ hk => hk.2) (.int .i64 t780)) (fun _ hk => hk.2) (.slice Ao64 t781.length co64)) (fun _ h_ => h_.1))))) (Kd.R_lt (by (with_reducible repeat (first | apply Kd.R_alloc | apply Kd.R_drewN | apply Kd.R_drew)); exact (Kd.R_mono (Kd.R_far (p := ⟨gb785, 2, none⟩) (Kd.R_far (p := ⟨gb785, 1, none⟩) (Kd.R_far (p := ⟨gb785, 0, none⟩) (Kd.R_types HO_768002.out BK785.out (by decide)) (fun _ hk => hk.2) (.int .i64 t779)) (fun _ hk => hk.2) (.int .i64 t780)) (fun _ hk => hk.2) (.slice Ao64 t781.length co64)) (fun _ h_ => h_.1))))) (Kd.R_lt (by (with_reducible repeat (first | apply Kd.R_alloc | apply Kd.R_drewN | apply Kd.R_drew)); exact (Kd.R_mono (Kd.R_far (p := ⟨gb785, 2, none⟩) (Kd.R_far (p := ⟨gb785, 1, none⟩) (Kd.R_far (p := ⟨gb785, 0, none⟩) (Kd.R_types HO783.out BK785.out (by decide)) (fun _ hk => hk.2) (.int .i64 t779)) (fun _ hk => hk.2) (.int .i64 t780)) (fun _ hk => hk.2) (.slice Ao64 t781.length co64)) (fun _ h_ => h_.1))))) (below_size (nC HB))); have n4_ := Aside0.mk (blk_below (g := gb759) (o := .cells #[.int .i64 a0_0, .int .i64 a0_1, .slice A0_2 l0_2.length c0_2] 24 (0, 0)) (by (with_reducible repeat (first | refine blk_drewN ?_ _ | refine blk_drew ?_ | refine blk_alloc ?_ _)); refine blk_far ?_ NB759_785.out _; (with_reducible repeat (first | refine blk_drewN ?_ _ | refine blk_drew ?_ | refine blk_alloc ?_ _)); refine blk_far ?_ NB759_785.out _; (with_reducible repeat (first | refine blk_drewN ?_ _ | refine blk_drew ?_ | refine blk_alloc ?_ _)); refine blk_far ?_ NB759_785.out _; (with_reducible repeat (first | refine blk_drewN ?_ _ | refine blk_drew ?_ | refine blk_alloc ?_ _)); exact BK759.out) hb); have n5_ := Aside0.mk (blk_below (g := gb767) (o := .cells #[.int .i64 t762, .int .i64 t763, .slice Ao25 t764.length co25] 24 (0, 0)) (by (with_reducible repeat (first | refine blk_drewN ?_ _ | refine blk_drew ?_ | refine blk_alloc ?_ _)); refine blk_far ?_ NB767_785.out _; (with_reducible repeat (first | refine blk_drewN ?_ _ | refine blk_drew ?_ | refine blk_alloc ?_ _)); refine blk_far ?_ NB767_785.out _; (with_reducible repeat (first | refine blk_drewN ?_ _ | refine blk_drew ?_ | refine blk_alloc ?_ _)); refine blk_far ?_ NB767_785.out _; (with_reducible repeat (first | refine blk_drewN ?_ _ | refine blk_drew ?_ | refine blk_alloc ?_ _)); exact BK767.out) hb); have n6_ := Aside0.mk (blk_below (g := gb785) (o := .cells #[.int .i64 t779, .int .i64 t780, .slice Ao64 t781.length co64] 24 (0, 0)) (by (with_reducible repeat (first | refine blk_drewN ?_ _ | refine blk_drew ?_ | refine blk_alloc ?_ _)); refine blk_put (cs := #[.int .i64 t779, .int .i64 t780, .slice none 0 0]) ?_ 2 _ rfl; (with_reducible repeat (first | refine blk_drewN ?_ _ | refine blk_drew ?_ | refine blk_alloc ?_ _)); refine blk_put (cs := #[.int .i64 t779, .int .i64 0, .slice none 0 0]) ?_ 1 _ rfl; (with_reducible repeat (first | refine blk_drewN ?_ _ | refine blk_drew ?_ | refine blk_alloc ?_ _)); refine blk_put (cs := #[.int .i64 0, .int .i64 0, .slice none 0 0]) ?_ 0 _ rfl; (with_reducible repeat (first | refine blk_drewN ?_ _ | refine blk_drew ?_ | refine blk_alloc ?_ _)); exact BK785.out) hb); have n7_ := Aside0.mk (below_step (nC HB) hb); clear HO_14; clear HO_768002; clear HO783; clear BK759; clear BK767; clear BK785; clear HB; have HO_14 := n0_; have HO_768002 := n1_; have HO783 := n2_; have HO790 := n3_; have BK759 := n4_; have BK767 := n5_; have BK785 := n6_; have HB := n7_; clear n0_ n1_ n2_ n3_ n4_ n5_ n6_ n7_; (try clear hb); (try clear hb2); (try clear hk); (try clear hi); (try clear ho0)) | ((with_reducible refine gate_dst (N := 17) rfl ?_); (try (refine gate_guard (by rfl) ?_; dsimp only)); refine box_event ?hg (N := 17) ?hd (cs := #[.int .i64 0, .int .i64 0, .slice none 0 0]) (t := 24) ?hr ?_; (case hd => rfl); (case hg => rfl); (case hr => first | (go_simp; done) | (go_simp; rfl)); intro gb792 hg w66 hbox hb; have n0_ := Aside0.mk (Kd.R_below (nR HO_14) hb); have n1_ := Aside0.mk (Kd.R_below (nR HO_768002) hb); have n2_ := Aside0.mk (Kd.R_below (nR HO783) hb); have n3_ := Aside0.mk (Kd.R_below (nR HO790) hb); have n4_ := Aside0.mk (nB BK759 hb); have n5_ := Aside0.mk (nB BK767 hb); have n6_ := Aside0.mk (nB BK785 hb); have n7_ := Aside0.mk (below_step (nC HB) hb); have n8_ := Aside0.mk (hbox); have n9_ := Aside0.mk ((by rw [hg]; exact (below_size (nC HB)) : w.heap.size ≤ gb792)); have n10_ := Aside0.mk ((by rw [hg]; exact (below_size (nC HB)) : w.heap.size ≤ gb792)); have n11_ := Aside0.mk ((by rw [hg]; exact Nat.ne_of_lt (blk_lt (g := gb759) (o := .cells #[.int .i64 a0_0, .int .i64 a0_1, .slice A0_2 l0_2.length c0_2] 24 (0, 0)) (nK BK759)) : gb759 ≠ gb792)); have n12_ := Aside0.mk ((by rw [hg]; exact Nat.ne_of_gt (blk_lt (g := gb759) (o := .cells #[.int .i64 a0_0, .int .i64 a0_1, .slice A0_2 l0_2.length c0_2] 24 (0, 0)) (nK BK759)) : gb792 ≠ gb759)); have n13_ := Aside0.mk ((by rw [hg]; exact Nat.ne_of_lt (blk_lt (g := gb767) (o := .cells #[.int .i64 t762, .int .i64 t763, .slice Ao25 t764.length co25] 24 (0, 0)) (nK BK767)) : gb767 ≠ gb792)); have n14_ := Aside0.mk ((by rw [hg]; exact Nat.ne_of_gt (blk_lt (g := gb767) (o := .cells #[.int .i64 t762, .int .i64 t763, .slice Ao25 t764.length co25] 24 (0, 0)) (nK BK767)) : gb792 ≠ gb767)); have n15_ := Aside0.mk ((by rw [hg]; exact Nat.ne_of_lt (blk_lt (g := gb785) (o := .cells #[.int .i64 t779, .int .i64 t780, .slice Ao64 t781.length co64] 24 (0, 0)) (nK BK785)) : gb785 ≠ gb792)); have n16_ := Aside0.mk ((by rw [hg]; exact Nat.ne_of_gt (blk_lt (g := gb785) (o := .cells #[.int .i64 t779, .int .i64 t780, .slice Ao64 t781.length co64] 24 (0, 0)) (nK BK785)) : gb792 ≠ gb785)); clear HO_14; clear HO_768002; clear HO783; clear HO790; clear BK759; clear BK767; clear BK785; clear HB; have HO_14 := n0_; have HO_768002 := n1_; have HO783 := n2_; have HO790 := n3_; have BK759 := n4_; have BK767 := n5_; have BK785 := n6_; have HB := n7_; have BK792 := n8_; have GW792 := n9_; have GE792 := n10_; have NB759_792 := n11_; have NB792_759 := n12_; have NB767_792 := n13_; have NB792_767 := n14_; have NB785_792 := n15_; have NB792_785 := n16_; clear n0_ n1_ n2_ n3_ n4_ n5_ n6_ n7_ n8_ n9_ n10_ n11_ n12_ n13_ n14_ n15_ n16_; clear hb hbox hg; have hnb67 := NB792_759.out; have hnc67 := NB759_792.out; have hnb68 := NB792_767.out; have hnc68 := NB767_792.out; have hnb69 := NB792_785.out; have hnc69 := NB785_792.out; have hcz70_0 : w66.cell? ⟨gb792, 0, none⟩ = some (.int .i64 0) := (blk_cell BK792.out 0).trans rfl; have hcz70_1 : w66.cell? ⟨gb792, 1, none⟩ = some (.int .i64 0) := (blk_cell BK792.out 1).trans rfl; have hcz70_2 : w66.cell? ⟨gb792, 2, none⟩ = some (.slice none 0 0) := (blk_cell BK792.out 2).trans rfl; have hfz70_0 := blk_frozen BK792.out 0; have hfz70_1 := blk_frozen BK792.out 1; have hfz70_2 := blk_frozen BK792.out 2; obtain ⟨Ao71, co71, eo71⟩ := Kd.R_slice HO790.out; subst eo71) | ((with_reducible refine gate_store (t := 24) (p := 17) rfl ?_); refine store_event (t := 24) (p := 17) (v := ?vo_w72) (w1 := (((w66.setCell ⟨gb792, 0, none⟩ (.int .i64 t786)).setCell ⟨gb792, 1, none⟩ (.int .i64 t787)).setCell ⟨gb792, 2, none⟩ (.slice Ao71 t788.length co71))) ?hg ?ho ?hn ?hr ?_; (case ho => rfl); (case hg => rfl); (case hn => rfl); (case hr => first | (go_simp; done) | (go_simp; rfl)); intro w72 hw; have n0_ : Aside0 (Kd.R (Kd.int .i64) 3 w72 w.heap.size (fun k_ => some k_ ≠ (.slice Ao25 t764.length co25 : Value).ownBlock ∧ some k_ ≠ (.slice Ao64 t781.length co64 : Value).ownBlock ∧ some k_ ≠ (.slice Ao71 t788.length co71 : Value).ownBlock) (.slice Ao58 x14_3.length co58) x14_3) := ⟨(by rw [hw]; exact (by (with_reducible repeat (first | apply Kd.R_alloc | apply Kd.R_drewN | apply Kd.R_drew)); exact Kd.R_mono (Kd.R_far (p := ⟨gb792, 2, none⟩) (Kd.R_far (p := ⟨gb792, 1, none⟩) (Kd.R_far (p := ⟨gb792, 0, none⟩) (Kd.R_types HO_14.out BK792.out (by decide)) (fun _ hk => hk.2) (.int .i64 t786)) (fun _ hk => hk.2) (.int .i64 t787)) (fun _ hk => hk.2) (.slice Ao71 t788.length co71)) (fun _ hk => ⟨hk.1.1.1, ⟨hk.1.1.2, hk.1.2⟩⟩)))⟩; have n1_ : Aside0 (Kd.R (Kd.int .i64) 3 w72 w.heap.size (fun k_ => some k_ ≠ (.slice Ao58 x14_3.length co58 : Value).ownBlock ∧ some k_ ≠ (.slice Ao64 t781.length co64 : Value).ownBlock ∧ some k_ ≠ (.slice Ao71 t788.length co71 : Value).ownBlock) (.slice Ao25 t764.length co25) t764) := ⟨(by rw [hw]; exact (by (with_reducible repeat (first | apply Kd.R_alloc | apply Kd.R_drewN | apply Kd.R_drew)); exact Kd.R_mono (Kd.R_far (p := ⟨gb792, 2, none⟩) (Kd.R_far (p := ⟨gb792, 1, none⟩) (Kd.R_far (p := ⟨gb792, 0, none⟩) (Kd.R_types HO_768002.out BK792.out (by decide)) (fun _ hk => hk.2) (.int .i64 t786)) (fun _ hk => hk.2) (.int .i64 t787)) (fun _ hk => hk.2) (.slice Ao71 t788.length co71)) (fun _ hk => ⟨hk.1.1.1, ⟨hk.1.1.2, hk.1.2⟩⟩)))⟩; have n2_ : Aside0 (Kd.R (Kd.int .i64) 3 w72 w.heap.size (fun k_ => some k_ ≠ (.slice Ao58 x14_3.length co58 : Value).ownBlock ∧ some k_ ≠ (.slice Ao25 t764.length co25 : Value).ownBlock ∧ some k_ ≠ (.slice Ao71 t788.length co71 : Value).ownBlock) (.slice Ao64 t781.length co64) t781) := ⟨(by rw [hw]; exact (by (with_reducible repeat (first | apply Kd.R_alloc | apply Kd.R_drewN | apply Kd.R_drew)); exact Kd.R_mono (Kd.R_far (p := ⟨gb792, 2, none⟩) (Kd.R_far (p := ⟨gb792, 1, none⟩) (Kd.R_far (p := ⟨gb792, 0, none⟩) (Kd.R_types HO783.out BK792.out (by decide)) (fun _ hk => hk.2) (.int .i64 t786)) (fun _ hk => hk.2) (.int .i64 t787)) (fun _ hk => hk.2) (.slice Ao71 t788.length co71)) (fun _ hk => ⟨hk.1.1.1.2, ⟨hk.1.1.2, hk.1.2⟩⟩)))⟩; have n3_ : Aside0 (Kd.R (Kd.int .i64) 3 w72 w.heap.size (fun k_ => some k_ ≠ (.slice Ao58 x14_3.length co58 : Value).ownBlock ∧ some k_ ≠ (.slice Ao25 t764.length co25 : Value).ownBlock ∧ some k_ ≠ (.slice Ao64 t781.length co64 : Value).ownBlock) (.slice Ao71 t788.length co71) t788) := ⟨(by rw [hw]; exact (by (with_reducible repeat (first | apply Kd.R_alloc | apply Kd.R_drewN | apply Kd.R_drew)); exact Kd.R_mono (Kd.R_far (p := ⟨gb792, 2, none⟩) (Kd.R_far (p := ⟨gb792, 1, none⟩) (Kd.R_far (p := ⟨gb792, 0, none⟩) (Kd.R_types HO790.out BK792.out (by decide)) (fun _ hk => hk.2) (.int .i64 t786)) (fun _ hk => hk.2) (.int .i64 t787)) (fun _ hk => hk.2) (.slice Ao71 t788.length co71)) (fun _ hk => ⟨hk.1.1.1.2, ⟨hk.1.1.2, hk.1.2⟩⟩)))⟩; have n4_ : Aside0 (w72.heap[gb759]? = some (.cells #[.int .i64 a0_0, .int .i64 a0_1, .slice A0_2 l0_2.length c0_2] 24 (0, 0))) := ⟨(by rw [hw]; exact (by (with_reducible repeat (first | refine blk_drewN ?_ _ | refine blk_drew ?_ | refine blk_alloc ?_ _)); refine blk_far ?_ NB759_792.out _; (with_reducible repeat (first | refine blk_drewN ?_ _ | refine blk_drew ?_ | refine blk_alloc ?_ _)); refine blk_far ?_ NB759_792.out _; (with_reducible repeat (first | refine blk_drewN ?_ _ | refine blk_drew ?_ | refine blk_alloc ?_ _)); refine blk_far ?_ NB759_792.out _; (with_reducible repeat (first | refine blk_drewN ?_ _ | refine blk_drew ?_ | refine blk_alloc ?_ _)); exact BK759.out))⟩; have n5_ : Aside0 (w72.heap[gb767]? = some (.cells #[.int .i64 t762, .int .i64 t763, .slice Ao25 t764.length co25] 24 (0, 0))) := ⟨(by rw [hw]; exact (by (with_reducible repeat (first | refine blk_drewN ?_ _ | refine blk_drew ?_ | refine blk_alloc ?_ _)); refine blk_far ?_ NB767_792.out _; (with_reducible repeat (first | refine blk_drewN ?_ _ | refine blk_drew ?_ | refine blk_alloc ?_ _)); refine blk_far ?_ NB767_792.out _; (with_reducible repeat (first | refine blk_drewN ?_ _ | refine blk_drew ?_ | refine blk_alloc ?_ _)); refine blk_far ?_ NB767_792.out _; (with_reducible repeat (first | refine blk_drewN ?_ _ | refine blk_drew ?_ | refine blk_alloc ?_ _)); exact BK767.out))⟩; have n6_ : Aside0 (w72.heap[gb785]? = some (.cells #[.int .i64 t779, .int .i64 t780, .slice Ao64 t781.length co64] 24 (0, 0))) := ⟨(by rw [hw]; exact (by (with_reducible repeat (first | refine blk_drewN ?_ _ | refine blk_drew ?_ | refine blk_alloc ?_ _)); refine blk_far ?_ NB785_792.out _; (with_reducible repeat (first | refine blk_drewN ?_ _ | refine blk_drew ?_ | refine blk_alloc ?_ _)); refine blk_far ?_ NB785_792.out _; (with_reducible repeat (first | refine blk_drewN ?_ _ | refine blk_drew ?_ | refine blk_alloc ?_ _)); refine blk_far ?_ NB785_792.out _; (with_reducible repeat (first | refine blk_drewN ?_ _ | refine blk_drew ?_ | refine blk_alloc ?_ _)); exact BK785.out))⟩; have n7_ : Aside0 (w72.heap[gb792]? = some (.cells #[.int .i64 t786, .int .i64 t787, .slice Ao71 t788.length co71] 24 (0, 0))) := ⟨(by rw [hw]; exact (by (with_reducible repeat (first | refine blk_drewN ?_ _ | refine blk_drew ?_ | refine blk_alloc ?_ _)); refine blk_put (cs := #[.int .i64 t786, .int .i64 t787, .slice none 0 0]) ?_ 2 _ rfl; (with_reducible repeat (first | refine blk_drewN ?_ _ | refine blk_drew ?_ | refine blk_alloc ?_ _)); refine blk_put (cs := #[.int .i64 t786, .int .i64 0, .slice none 0 0]) ?_ 1 _ rfl; (with_reducible repeat (first | refine blk_drewN ?_ _ | refine blk_drew ?_ | refine blk_alloc ?_ _)); refine blk_put (cs := #[.int .i64 0, .int .i64 0, .slice none 0 0]) ?_ 0 _ rfl; (with_reducible repeat (first | refine blk_drewN ?_ _ | refine blk_drew ?_ | refine blk_alloc ?_ _)); exact BK792.out))⟩; have n8_ : Aside0 (Below w.heap.size w w72) := ⟨(by rw [hw]; exact (nC HB))⟩; clear hw; clear HO_14; clear HO_768002; clear HO783; clear HO790; clear BK759; clear BK767; clear BK785; clear BK792; clear HB; have HO_14 := n0_; have HO_768002 := n1_; have HO783 := n2_; have HO790 := n3_; have BK759 := n4_; have BK767 := n5_; have BK785 := n6_; have BK792 := n7_; have HB := n8_; clear n0_ n1_ n2_ n3_ n4_ n5_ n6_ n7_ n8_; have hcz73_0 : w72.cell? ⟨gb785, 0, none⟩ = some (.int .i64 t779) := (blk_cell BK785.out 0).trans rfl; have hcz73_1 : w72.cell? ⟨gb785, 1, none⟩ = some (.int .i64 t780) := (blk_cell BK785.out 1).trans rfl; have hcz73_2 : w72.cell? ⟨gb785, 2, none⟩ = some (.slice Ao64 t781.length co64) := (blk_cell BK785.out 2).trans rfl; have hfz73_0 := blk_frozen BK785.out 0; have hfz73_1 := blk_frozen BK785.out 1; have hfz73_2 := blk_frozen BK785.out 2; have hcz74_0 : w72.cell? ⟨gb792, 0, none⟩ = some (.int .i64 t786) := (blk_cell BK792.out 0).trans rfl; have hcz74_1 : w72.cell? ⟨gb792, 1, none⟩ = some (.int .i64 t787) := (blk_cell BK792.out 1).trans rfl; have hcz74_2 : w72.cell? ⟨gb792, 2, none⟩ = some (.slice Ao71 t788.length co71) := (blk_cell BK792.out 2).trans rfl; have hfz74_0 := blk_frozen BK792.out 0; have hfz74_1 := blk_frozen BK792.out 1; have hfz74_2 := blk_frozen BK792.out 2) | ((with_reducible refine gate_callee (f := 33) rfl ?_); refine goesL_ (some 88) rfl rfl Try.func33 (by kernel_rfl) rfl #[.agg #[.int .i64 t779, .int .i64 t780, .slice Ao64 t781.length co64], .int .i64 t784, .agg #[.int .i64 t786, .int .i64 t787, .slice Ao71 t788.length co71], .int .i64 t791] rfl (by (try simp only [List.map_toArray, List.map_cons, List.map_nil]); first | done | rfl | (simp only [List.length_drop, List.length_take]; rfl)) ?_; (with_reducible refine (kimberlitelaw03_told.calls k3 t779 t780 (fun k_ => some k_ = (.slice Ao64 t781.length co64 : Value).ownBlock) (.slice Ao64 t781.length co64) t781 t784 t786 t787 _ _ t788 t791 true t794 w _ ?side1 ?side2 ?side3 ?side4 A51.out).mono ?_); (case side1 => repeat (first | (with_reducible first | exact HB.out | apply below_alloc | apply pw_below_drewN | apply below_drew1 | refine below_set ?_ GE759.out | refine below_set ?_ GE767.out | refine below_set ?_ GE785.out | refine below_set ?_ GE792.out) | exact HB.out)); (case side2 => exact Kd.R_tight rfl HO783.out); (case side3 => exact Kd.C_kept_own (HO790.out) (fun k_ hk_ hs_ => (hk_.2.2) hs_)); (case side4 => exact (Kd.R_reads' HO790.out).2.1); rintro e w75 ⟨rfl, hy0, hb, hkp⟩; refine ⟨_, rfl, ?_⟩; have n0_ := Aside0.mk (Kd.R_mono (ok' := fun k_ => some k_ ≠ (.slice Ao25 t764.length co25 : Value).ownBlock ∧ some k_ ≠ (.slice Ao64 t781.length co64 : Value).ownBlock ∧ some k_ ≠ (.slice Ao71 t788.length co71 : Value).ownBlock) (Kd.R_keptB (HO_14.out) hkp (fun k_ hk_ hs_ => (hk_.2.1) hs_)) (fun k_ hk_ => ⟨hk_.1.1, hk_.1.2.1, hk_.1.2.2⟩)); have n1_ := Aside0.mk (Kd.R_mono (ok' := fun k_ => some k_ ≠ (.slice Ao58 x14_3.length co58 : Value).ownBlock ∧ some k_ ≠ (.slice Ao64 t781.length co64 : Value).ownBlock ∧ some k_ ≠ (.slice Ao71 t788.length co71 : Value).ownBlock) (Kd.R_keptB (HO_768002.out) hkp (fun k_ hk_ hs_ => (hk_.2.1) hs_)) (fun k_ hk_ => ⟨hk_.1.1, hk_.1.2.1, hk_.1.2.2⟩)); have n2_ := Aside0.mk (blk_kept (nK BK759) hkp (fun hs_ => (fun e_ => (Kd.R_ne HO783.out BK759.out (by decide)) e_) hs_)); have n3_ := Aside0.mk (blk_kept (nK BK767) hkp (fun hs_ => (fun e_ => (Kd.R_ne HO783.out BK767.out (by decide)) e_) hs_)); have n4_ := Aside0.mk (Kd.R_reok rfl hy0 (fun k_ e_ => HO783.out.1 k_ e_)); have n5_ := Aside0.mk (blk_kept (nK BK785) hkp (fun hs_ => (fun e_ => (Kd.R_ne HO783.out BK785.out (by decide)) e_) hs_)); have n6_ := Aside0.mk (Kd.R_mono (ok' := fun k_ => some k_ ≠ (.slice Ao58 x14_3.length co58 : Value).ownBlock ∧ some k_ ≠ (.slice Ao25 t764.length co25 : Value).ownBlock ∧ some k_ ≠ (.slice Ao64 t781.length co64 : Value).ownBlock) (Kd.R_keptB (HO790.out) hkp (fun k_ hk_ hs_ => (hk_.2.2) hs_)) (fun k_ hk_ => ⟨hk_.1.1, hk_.1.2.1, hk_.1.2.2⟩)); have n7_ := Aside0.mk (blk_kept (nK BK792) hkp (fun hs_ => (fun e_ => (Kd.R_ne HO783.out BK792.out (by decide)) e_) hs_)); have n8_ := Aside0.mk (hb); clear HO_14; clear HO_768002; clear BK759; clear BK767; clear HO783; clear BK785; clear HO790; clear BK792; clear HB; have HO_14 := n0_; have HO_768002 := n1_; have BK759 := n2_; have BK767 := n3_; have HO783 := n4_; have BK785 := n5_; have HO790 := n6_; have BK792 := n7_; have HB := n8_; clear n0_ n1_ n2_ n3_ n4_ n5_ n6_ n7_ n8_; (try clear hb); (try clear hkp); (try clear hy0)) | (go_at_call 24; (with_reducible refine (kimberlitelaw03_same.calls k3 _ _ x14_3 _ _ l3 true _ ?side1 ?side2 ?side3 ?side4 A53.out).mono ?_); (case side1 => repeat (first | exact (Kd.R_reads' HO_14.out).2.2 | (with_reducible refine Kd.C_alloc ?_ _) | (with_reducible refine Kd.C_drewN ?_ _) | (with_reducible refine Kd.C_drew ?_))); (case side2 => exact (Kd.R_reads' HO_14.out).2.1); (case side3 => repeat (first | exact (Kd.C_below HR3.out HB.out) | (with_reducible refine Kd.C_alloc ?_ _) | (with_reducible refine Kd.C_drewN ?_ _) | (with_reducible refine Kd.C_drew ?_))); (case side4 => exact HC3.out); rintro e w' ⟨rfl, ⟨nd, rfl⟩⟩; have hnb76 := NB759_767.out; have hnc76 := NB767_759.out; have hcz77_0 : w75.cell? ⟨gb759, 0, none⟩ = some (.int .i64 a0_0) := (blk_cell BK759.out 0).trans rfl; have hcz77_1 : w75.cell? ⟨gb759, 1, none⟩ = some (.int .i64 a0_1) := (blk_cell BK759.out 1).trans rfl; have hcz77_2 : w75.cell? ⟨gb759, 2, none⟩ = some (.slice A0_2 l0_2.length c0_2) := (blk_cell BK759.out 2).trans rfl; have hfz77_0 := blk_frozen BK759.out 0; have hfz77_1 := blk_frozen BK759.out 1; have hfz77_2 := blk_frozen BK759.out 2; have hcz78_0 : w75.cell? ⟨gb767, 0, none⟩ = some (.int .i64 t762) := (blk_cell BK767.out 0).trans rfl; have hcz78_1 : w75.cell? ⟨gb767, 1, none⟩ = some (.int .i64 t763) := (blk_cell BK767.out 1).trans rfl; have hcz78_2 : w75.cell? ⟨gb767, 2, none⟩ = some (.slice Ao25 t764.length co25) := (blk_cell BK767.out 2).trans rfl; have hfz78_0 := blk_frozen BK767.out 0; have hfz78_1 := blk_frozen BK767.out 1; have hfz78_2 := blk_frozen BK767.out 2) | (go_at_call 15; (with_reducible refine (kimberlitelaw03_alike.calls k3 a0_0 a0_1 _ _ l0_2 t762 t763 _ _ t764 true _ ?side1 ?side2 ?side3 ?side4 A55.out).mono ?_); (case side1 => repeat (first | exact (Kd.C_below HR0_2.out (nC HB)) | (with_reducible refine Kd.C_alloc ?_ _) | (with_reducible refine Kd.C_drewN ?_ _) | (with_reducible refine Kd.C_drew ?_))); (case side2 => exact HC0_2.out); (case side3 => repeat (first | exact (Kd.R_reads' HO_768002.out).2.2 | (with_reducible refine Kd.C_alloc ?_ _) | (with_reducible refine Kd.C_drewN ?_ _) | (with_reducible refine Kd.C_drew ?_))); (case side4 => exact (Kd.R_reads' HO_768002.out).2.1); rintro e w79 ⟨rfl, hb⟩; have n0_ := Aside0.mk (Kd.R_below (nR HO_14) hb); have n1_ := Aside0.mk (Kd.R_below (nR HO_768002) hb); have n2_ := Aside0.mk (Kd.R_below (nR HO783) hb); have n3_ := Aside0.mk (Kd.R_below (nR HO790) hb); have n4_ := Aside0.mk (nB BK759 hb); have n5_ := Aside0.mk (nB BK767 hb); have n6_ := Aside0.mk (nB BK785 hb); have n7_ := Aside0.mk (nB BK792 hb); have n8_ := Aside0.mk (below_step (nC HB) hb); clear HO_14; clear HO_768002; clear HO783; clear HO790; clear BK759; clear BK767; clear BK785; clear BK792; clear HB; have HO_14 := n0_; have HO_768002 := n1_; have HO783 := n2_; have HO790 := n3_; have BK759 := n4_; have BK767 := n5_; have BK785 := n6_; have BK792 := n7_; have HB := n8_; clear n0_ n1_ n2_ n3_ n4_ n5_ n6_ n7_ n8_; (try clear hb); (try clear hb2); (try clear hk); (try clear hi)) | (go_at_call 17; (with_reducible refine (kimberlitelaw03_alive.calls  t797 _ A57.out).mono ?_); rintro e w80 ⟨rfl, hb⟩; have n0_ := Aside0.mk (Kd.R_below (nR HO_14) hb); have n1_ := Aside0.mk (Kd.R_below (nR HO_768002) hb); have n2_ := Aside0.mk (Kd.R_below (nR HO783) hb); have n3_ := Aside0.mk (Kd.R_below (nR HO790) hb); have n4_ := Aside0.mk (nB BK759 hb); have n5_ := Aside0.mk (nB BK767 hb); have n6_ := Aside0.mk (nB BK785 hb); have n7_ := Aside0.mk (nB BK792 hb); have n8_ := Aside0.mk (below_step (nC HB) hb); clear HO_14; clear HO_768002; clear HO783; clear HO790; clear BK759; clear BK767; clear BK785; clear BK792; clear HB; have HO_14 := n0_; have HO_768002 := n1_; have HO783 := n2_; have HO790 := n3_; have BK759 := n4_; have BK767 := n5_; have BK785 := n6_; have BK792 := n7_; have HB := n8_; clear n0_ n1_ n2_ n3_ n4_ n5_ n6_ n7_ n8_; (try clear hb); (try clear hb2); (try clear hk); (try clear hi)))
                       go_ret
                       exact ⟨by first | rfl | (simp [errW_none, errW_some] <;> rfl) | (simp [*, errW_none, errW_some] <;> rfl), nC HB⟩
                     · replace c56 := Bool.eq_false_iff.mpr c56
                       subst c56
                       have H1 : (some false) = some r := by rw [if_neg (show ¬ (false = true) by decide)] at H; exact H
                       clear H
                       have H := H1
                       clear H1
                       obtain rfl := Option.some.inj H
                       obtain ⟨Ao81, co81, eo81⟩ := Kd.R_slice HO_14.out
                       subst eo81
                       go_wp2_with (first | ((with_reducible refine gate_callee (f := 31) rfl ?_); refine goesL_ (some 75) rfl rfl Try.func31 (by kernel_rfl) rfl #[.int .i64 a2, .slice Ao81 x14_3.length co81] rfl (by (try simp only [List.map_toArray, List.map_cons, List.map_nil]); first | done | rfl | (simp only [List.length_drop, List.length_take]; rfl)) ?_; (with_reducible refine (curve_Of.calls k3 a2 _ _ x14_3 t779 t780 t781 t784 _ ?side1 ?side2 A49.out).mono ?_); (case side1 => repeat (first | exact (Kd.R_reads' HO_14.out).2.2 | (with_reducible refine Kd.C_alloc ?_ _) | (with_reducible refine Kd.C_drewN ?_ _) | (with_reducible refine Kd.C_drew ?_))); (case side2 => exact (Kd.R_reads' HO_14.out).2.1); rintro e w82 ⟨v782, rfl, ho0, hb⟩; refine ⟨_, rfl, ?_⟩; have n0_ := Aside0.mk (Kd.R_elder' (nR HO_14) (Kd.R_base ho0) hb); have n1_ := Aside0.mk (Kd.R_elder' (nR HO_768002) (Kd.R_base ho0) hb); have n2_ := Aside0.mk (Kd.R_lower (Kd.R_new' (Kd.R_new' ho0 (Kd.R_lt (nR HO_14))) (Kd.R_lt (nR HO_768002))) (below_size (nC HB))); have n3_ := Aside0.mk (nB BK759 hb); have n4_ := Aside0.mk (nB BK767 hb); have n5_ := Aside0.mk (below_step (nC HB) hb); clear HO_14; clear HO_768002; clear BK759; clear BK767; clear HB; have HO_14 := n0_; have HO_768002 := n1_; have HO783 := n2_; have BK759 := n3_; have BK767 := n4_; have HB := n5_; clear n0_ n1_ n2_ n3_ n4_ n5_; (try clear hb); (try clear hb2); (try clear hk); (try clear hi); (try clear ho0)) | ((with_reducible refine gate_dst (N := 16) rfl ?_); (try (refine gate_guard (by rfl) ?_; dsimp only)); refine box_event ?hg (N := 16) ?hd (cs := #[.int .i64 0, .int .i64 0, .slice none 0 0]) (t := 24) ?hr ?_; (case hd => rfl); (case hg => rfl); (case hr => first | (go_simp; done) | (go_simp; rfl)); intro gb785 hg w83 hbox hb; have n0_ := Aside0.mk (Kd.R_below (nR HO_14) hb); have n1_ := Aside0.mk (Kd.R_below (nR HO_768002) hb); have n2_ := Aside0.mk (Kd.R_below (nR HO783) hb); have n3_ := Aside0.mk (nB BK759 hb); have n4_ := Aside0.mk (nB BK767 hb); have n5_ := Aside0.mk (below_step (nC HB) hb); have n6_ := Aside0.mk (hbox); have n7_ := Aside0.mk ((by rw [hg]; exact (below_size (nC HB)) : w.heap.size ≤ gb785)); have n8_ := Aside0.mk ((by rw [hg]; exact (below_size (nC HB)) : w.heap.size ≤ gb785)); have n9_ := Aside0.mk ((by rw [hg]; exact Nat.ne_of_lt (blk_lt (g := gb759) (o := .cells #[.int .i64 a0_0, .int .i64 a0_1, .slice A0_2 l0_2.length c0_2] 24 (0, 0)) (nK BK759)) : gb759 ≠ gb785)); have n10_ := Aside0.mk ((by rw [hg]; exact Nat.ne_of_gt (blk_lt (g := gb759) (o := .cells #[.int .i64 a0_0, .int .i64 a0_1, .slice A0_2 l0_2.length c0_2] 24 (0, 0)) (nK BK759)) : gb785 ≠ gb759)); have n11_ := Aside0.mk ((by rw [hg]; exact Nat.ne_of_lt (blk_lt (g := gb767) (o := .cells #[.int .i64 t762, .int .i64 t763, .slice Ao25 t764.length co25] 24 (0, 0)) (nK BK767)) : gb767 ≠ gb785)); have n12_ := Aside0.mk ((by rw [hg]; exact Nat.ne_of_gt (blk_lt (g := gb767) (o := .cells #[.int .i64 t762, .int .i64 t763, .slice Ao25 t764.length co25] 24 (0, 0)) (nK BK767)) : gb785 ≠ gb767)); clear HO_14; clear HO_768002; clear HO783; clear BK759; clear BK767; clear HB; have HO_14 := n0_; have HO_768002 := n1_; have HO783 := n2_; have BK759 := n3_; have BK767 := n4_; have HB := n5_; have BK785 := n6_; have GW785 := n7_; have GE785 := n8_; have NB759_785 := n9_; have NB785_759 := n10_; have NB767_785 := n11_; have NB785_767 := n12_; clear n0_ n1_ n2_ n3_ n4_ n5_ n6_ n7_ n8_ n9_ n10_ n11_ n12_; clear hb hbox hg; have hnb84 := NB785_759.out; have hnc84 := NB759_785.out; have hnb85 := NB785_767.out; have hnc85 := NB767_785.out; have hcz86_0 : w83.cell? ⟨gb785, 0, none⟩ = some (.int .i64 0) := (blk_cell BK785.out 0).trans rfl; have hcz86_1 : w83.cell? ⟨gb785, 1, none⟩ = some (.int .i64 0) := (blk_cell BK785.out 1).trans rfl; have hcz86_2 : w83.cell? ⟨gb785, 2, none⟩ = some (.slice none 0 0) := (blk_cell BK785.out 2).trans rfl; have hfz86_0 := blk_frozen BK785.out 0; have hfz86_1 := blk_frozen BK785.out 1; have hfz86_2 := blk_frozen BK785.out 2; obtain ⟨Ao87, co87, eo87⟩ := Kd.R_slice HO783.out; subst eo87) | ((with_reducible refine gate_callee (f := 32) rfl ?_); refine goesL_ (some 81) rfl rfl Try.func32 (by kernel_rfl) rfl #[.int .i64 a2, .slice A3 l3.length c3] rfl (by (try simp only [List.map_toArray, List.map_cons, List.map_nil]); first | done | rfl | (simp only [List.length_drop, List.length_take]; rfl)) ?_; (with_reducible refine (kimberliteref03_Of.calls k3 a2 _ _ l3 t786 t787 t788 t791 _ ?side1 ?side2 A50.out).mono ?_); (case side1 => exact Kd.C_below HR3.out (nC HB)); (case side2 => exact HC3.out); rintro e w88 ⟨v789, rfl, ho0, hb⟩; refine ⟨_, rfl, ?_⟩; have n0_ := Aside0.mk (Kd.R_elder' (by (with_reducible repeat (first | apply Kd.R_alloc | apply Kd.R_drewN | apply Kd.R_drew)); exact (Kd.R_mono (Kd.R_far (p := ⟨gb785, 2, none⟩) (Kd.R_far (p := ⟨gb785, 1, none⟩) (Kd.R_far (p := ⟨gb785, 0, none⟩) (Kd.R_types HO_14.out BK785.out (by decide)) (fun _ hk => hk.2) (.int .i64 t779)) (fun _ hk => hk.2) (.int .i64 t780)) (fun _ hk => hk.2) (.slice Ao87 t781.length co87)) (fun _ h_ => h_.1))) (Kd.R_base ho0) hb); have n1_ := Aside0.mk (Kd.R_elder' (by (with_reducible repeat (first | apply Kd.R_alloc | apply Kd.R_drewN | apply Kd.R_drew)); exact (Kd.R_mono (Kd.R_far (p := ⟨gb785, 2, none⟩) (Kd.R_far (p := ⟨gb785, 1, none⟩) (Kd.R_far (p := ⟨gb785, 0, none⟩) (Kd.R_types HO_768002.out BK785.out (by decide)) (fun _ hk => hk.2) (.int .i64 t779)) (fun _ hk => hk.2) (.int .i64 t780)) (fun _ hk => hk.2) (.slice Ao87 t781.length co87)) (fun _ h_ => h_.1))) (Kd.R_base ho0) hb); have n2_ := Aside0.mk (Kd.R_elder' (by (with_reducible repeat (first | apply Kd.R_alloc | apply Kd.R_drewN | apply Kd.R_drew)); exact (Kd.R_mono (Kd.R_far (p := ⟨gb785, 2, none⟩) (Kd.R_far (p := ⟨gb785, 1, none⟩) (Kd.R_far (p := ⟨gb785, 0, none⟩) (Kd.R_types HO783.out BK785.out (by decide)) (fun _ hk => hk.2) (.int .i64 t779)) (fun _ hk => hk.2) (.int .i64 t780)) (fun _ hk => hk.2) (.slice Ao87 t781.length co87)) (fun _ h_ => h_.1))) (Kd.R_base ho0) hb); have n3_ := Aside0.mk (Kd.R_lower (Kd.R_new' (Kd.R_new' (Kd.R_new' ho0 (Kd.R_lt (by (with_reducible repeat (first | apply Kd.R_alloc | apply Kd.R_drewN | apply Kd.R_drew)); exact (Kd.R_mono (Kd.R_far (p := ⟨gb785, 2, none⟩) (Kd.R_far (p := ⟨gb785, 1, none⟩) (Kd.R_far (p := ⟨gb785, 0, none⟩) (Kd.R_types HO_14.out BK785.out (by decide)) (fun _ hk => hk.2) (.int .i64 t779)) (fun _ hk => hk.2) (.int .i64 t780)) (fun _ hk => hk.2) (.slice Ao87 t781.length co87)) (fun _ h_ => h_.1))))) (Kd.R_lt (by (with_reducible repeat (first | apply Kd.R_alloc | apply Kd.R_drewN | apply Kd.R_drew)); exact (Kd.R_mono (Kd.R_far (p := ⟨gb785, 2, none⟩) (Kd.R_far (p := ⟨gb785, 1, none⟩) (Kd.R_far (p := ⟨gb785, 0, none⟩) (Kd.R_types HO_768002.out BK785.out (by decide)) (fun _ hk => hk.2) (.int .i64 t779)) (fun _ hk => hk.2) (.int .i64 t780)) (fun _ hk => hk.2) (.slice Ao87 t781.length co87)) (fun _ h_ => h_.1))))) (Kd.R_lt (by (with_reducible repeat (first | apply Kd.R_alloc | apply Kd.R_drewN | apply Kd.R_drew)); exact (Kd.R_mono (Kd.R_far (p := ⟨gb785, 2, none⟩) (Kd.R_far (p := ⟨gb785, 1, none⟩) (Kd.R_far (p := ⟨gb785, 0, none⟩) (Kd.R_types HO783.out BK785.out (by decide)) (fun _ hk => hk.2) (.int .i64 t779)) (fun _ hk => hk.2) (.int .i64 t780)) (fun _ hk => hk.2) (.slice Ao87 t781.length co87)) (fun _ h_ => h_.1))))) (below_size (nC HB))); have n4_ := Aside0.mk (blk_below (g := gb759) (o := .cells #[.int .i64 a0_0, .int .i64 a0_1, .slice A0_2 l0_2.length c0_2] 24 (0, 0)) (by (with_reducible repeat (first | refine blk_drewN ?_ _ | refine blk_drew ?_ | refine blk_alloc ?_ _)); refine blk_far ?_ NB759_785.out _; (with_reducible repeat (first | refine blk_drewN ?_ _ | refine blk_drew ?_ | refine blk_alloc ?_ _)); refine blk_far ?_ NB759_785.out _; (with_reducible repeat (first | refine blk_drewN ?_ _ | refine blk_drew ?_ | refine blk_alloc ?_ _)); refine blk_far ?_ NB759_785.out _; (with_reducible repeat (first | refine blk_drewN ?_ _ | refine blk_drew ?_ | refine blk_alloc ?_ _)); exact BK759.out) hb); have n5_ := Aside0.mk (blk_below (g := gb767) (o := .cells #[.int .i64 t762, .int .i64 t763, .slice Ao25 t764.length co25] 24 (0, 0)) (by (with_reducible repeat (first | refine blk_drewN ?_ _ | refine blk_drew ?_ | refine blk_alloc ?_ _)); refine blk_far ?_ NB767_785.out _; (with_reducible repeat (first | refine blk_drewN ?_ _ | refine blk_drew ?_ | refine blk_alloc ?_ _)); refine blk_far ?_ NB767_785.out _; (with_reducible repeat (first | refine blk_drewN ?_ _ | refine blk_drew ?_ | refine blk_alloc ?_ _)); refine blk_far ?_ NB767_785.out _; (with_reducible repeat (first | refine blk_drewN ?_ _ | refine blk_drew ?_ | refine blk_alloc ?_ _)); exact BK767.out) hb); have n6_ := Aside0.mk (blk_below (g := gb785) (o := .cells #[.int .i64 t779, .int .i64 t780, .slice Ao87 t781.length co87] 24 (0, 0)) (by (with_reducible repeat (first | refine blk_drewN ?_ _ | refine blk_drew ?_ | refine blk_alloc ?_ _)); refine blk_put (cs := #[.int .i64 t779, .int .i64 t780, .slice none 0 0]) ?_ 2 _ rfl; (with_reducible repeat (first | refine blk_drewN ?_ _ | refine blk_drew ?_ | refine blk_alloc ?_ _)); refine blk_put (cs := #[.int .i64 t779, .int .i64 0, .slice none 0 0]) ?_ 1 _ rfl; (with_reducible repeat (first | refine blk_drewN ?_ _ | refine blk_drew ?_ | refine blk_alloc ?_ _)); refine blk_put (cs := #[.int .i64 0, .int .i64 0, .slice none 0 0]) ?_ 0 _ rfl; (with_reducible repeat (first | refine blk_drewN ?_ _ | refine blk_drew ?_ | refine blk_alloc ?_ _)); exact BK785.out) hb); have n7_ := Aside0.mk (below_step (nC HB) hb); clear HO_14; clear HO_768002; clear HO783; clear BK759; clear BK767; clear BK785; clear HB; have HO_14 := n0_; have HO_768002 := n1_; have HO783 := n2_; have HO790 := n3_; have BK759 := n4_; have BK767 := n5_; have BK785 := n6_; have HB := n7_; clear n0_ n1_ n2_ n3_ n4_ n5_ n6_ n7_; (try clear hb); (try clear hb2); (try clear hk); (try clear hi); (try clear ho0)) | ((with_reducible refine gate_dst (N := 17) rfl ?_); (try (refine gate_guard (by rfl) ?_; dsimp only)); refine box_event ?hg (N := 17) ?hd (cs := #[.int .i64 0, .int .i64 0, .slice none 0 0]) (t := 24) ?hr ?_; (case hd => rfl); (case hg => rfl); (case hr => first | (go_simp; done) | (go_simp; rfl)); intro gb792 hg w89 hbox hb; have n0_ := Aside0.mk (Kd.R_below (nR HO_14) hb); have n1_ := Aside0.mk (Kd.R_below (nR HO_768002) hb); have n2_ := Aside0.mk (Kd.R_below (nR HO783) hb); have n3_ := Aside0.mk (Kd.R_below (nR HO790) hb); have n4_ := Aside0.mk (nB BK759 hb); have n5_ := Aside0.mk (nB BK767 hb); have n6_ := Aside0.mk (nB BK785 hb); have n7_ := Aside0.mk (below_step (nC HB) hb); have n8_ := Aside0.mk (hbox); have n9_ := Aside0.mk ((by rw [hg]; exact (below_size (nC HB)) : w.heap.size ≤ gb792)); have n10_ := Aside0.mk ((by rw [hg]; exact (below_size (nC HB)) : w.heap.size ≤ gb792)); have n11_ := Aside0.mk ((by rw [hg]; exact Nat.ne_of_lt (blk_lt (g := gb759) (o := .cells #[.int .i64 a0_0, .int .i64 a0_1, .slice A0_2 l0_2.length c0_2] 24 (0, 0)) (nK BK759)) : gb759 ≠ gb792)); have n12_ := Aside0.mk ((by rw [hg]; exact Nat.ne_of_gt (blk_lt (g := gb759) (o := .cells #[.int .i64 a0_0, .int .i64 a0_1, .slice A0_2 l0_2.length c0_2] 24 (0, 0)) (nK BK759)) : gb792 ≠ gb759)); have n13_ := Aside0.mk ((by rw [hg]; exact Nat.ne_of_lt (blk_lt (g := gb767) (o := .cells #[.int .i64 t762, .int .i64 t763, .slice Ao25 t764.length co25] 24 (0, 0)) (nK BK767)) : gb767 ≠ gb792)); have n14_ := Aside0.mk ((by rw [hg]; exact Nat.ne_of_gt (blk_lt (g := gb767) (o := .cells #[.int .i64 t762, .int .i64 t763, .slice Ao25 t764.length co25] 24 (0, 0)) (nK BK767)) : gb792 ≠ gb767)); have n15_ := Aside0.mk ((by rw [hg]; exact Nat.ne_of_lt (blk_lt (g := gb785) (o := .cells #[.int .i64 t779, .int .i64 t780, .slice Ao87 t781.length co87] 24 (0, 0)) (nK BK785)) : gb785 ≠ gb792)); have n16_ := Aside0.mk ((by rw [hg]; exact Nat.ne_of_gt (blk_lt (g := gb785) (o := .cells #[.int .i64 t779, .int .i64 t780, .slice Ao87 t781.length co87] 24 (0, 0)) (nK BK785)) : gb792 ≠ gb785)); clear HO_14; clear HO_768002; clear HO783; clear HO790; clear BK759; clear BK767; clear BK785; clear HB; have HO_14 := n0_; have HO_768002 := n1_; have HO783 := n2_; have HO790 := n3_; have BK759 := n4_; have BK767 := n5_; have BK785 := n6_; have HB := n7_; have BK792 := n8_; have GW792 := n9_; have GE792 := n10_; have NB759_792 := n11_; have NB792_759 := n12_; have NB767_792 := n13_; have NB792_767 := n14_; have NB785_792 := n15_; have NB792_785 := n16_; clear n0_ n1_ n2_ n3_ n4_ n5_ n6_ n7_ n8_ n9_ n10_ n11_ n12_ n13_ n14_ n15_ n16_; clear hb hbox hg; have hnb90 := NB792_759.out; have hnc90 := NB759_792.out; have hnb91 := NB792_767.out; have hnc91 := NB767_792.out; have hnb92 := NB792_785.out; have hnc92 := NB785_792.out; have hcz93_0 : w89.cell? ⟨gb792, 0, none⟩ = some (.int .i64 0) := (blk_cell BK792.out 0).trans rfl; have hcz93_1 : w89.cell? ⟨gb792, 1, none⟩ = some (.int .i64 0) := (blk_cell BK792.out 1).trans rfl; have hcz93_2 : w89.cell? ⟨gb792, 2, none⟩ = some (.slice none 0 0) := (blk_cell BK792.out 2).trans rfl; have hfz93_0 := blk_frozen BK792.out 0; have hfz93_1 := blk_frozen BK792.out 1; have hfz93_2 := blk_frozen BK792.out 2; obtain ⟨Ao94, co94, eo94⟩ := Kd.R_slice HO790.out; subst eo94) | ((with_reducible refine gate_store (t := 24) (p := 17) rfl ?_); refine store_event (t := 24) (p := 17) (v := ?vo_w95) (w1 := (((w89.setCell ⟨gb792, 0, none⟩ (.int .i64 t786)).setCell ⟨gb792, 1, none⟩ (.int .i64 t787)).setCell ⟨gb792, 2, none⟩ (.slice Ao94 t788.length co94))) ?hg ?ho ?hn ?hr ?_; (case ho => rfl); (case hg => rfl); (case hn => rfl); (case hr => first | (go_simp; done) | (go_simp; rfl)); intro w95 hw; have n0_ : Aside0 (Kd.R (Kd.int .i64) 3 w95 w.heap.size (fun k_ => some k_ ≠ (.slice Ao25 t764.length co25 : Value).ownBlock ∧ some k_ ≠ (.slice Ao87 t781.length co87 : Value).ownBlock ∧ some k_ ≠ (.slice Ao94 t788.length co94 : Value).ownBlock) (.slice Ao81 x14_3.length co81) x14_3) := ⟨(by rw [hw]; exact (by (with_reducible repeat (first | apply Kd.R_alloc | apply Kd.R_drewN | apply Kd.R_drew)); exact Kd.R_mono (Kd.R_far (p := ⟨gb792, 2, none⟩) (Kd.R_far (p := ⟨gb792, 1, none⟩) (Kd.R_far (p := ⟨gb792, 0, none⟩) (Kd.R_types HO_14.out BK792.out (by decide)) (fun _ hk => hk.2) (.int .i64 t786)) (fun _ hk => hk.2) (.int .i64 t787)) (fun _ hk => hk.2) (.slice Ao94 t788.length co94)) (fun _ hk => ⟨hk.1.1.1, ⟨hk.1.1.2, hk.1.2⟩⟩)))⟩; have n1_ : Aside0 (Kd.R (Kd.int .i64) 3 w95 w.heap.size (fun k_ => some k_ ≠ (.slice Ao81 x14_3.length co81 : Value).ownBlock ∧ some k_ ≠ (.slice Ao87 t781.length co87 : Value).ownBlock ∧ some k_ ≠ (.slice Ao94 t788.length co94 : Value).ownBlock) (.slice Ao25 t764.length co25) t764) := ⟨(by rw [hw]; exact (by (with_reducible repeat (first | apply Kd.R_alloc | apply Kd.R_drewN | apply Kd.R_drew)); exact Kd.R_mono (Kd.R_far (p := ⟨gb792, 2, none⟩) (Kd.R_far (p := ⟨gb792, 1, none⟩) (Kd.R_far (p := ⟨gb792, 0, none⟩) (Kd.R_types HO_768002.out BK792.out (by decide)) (fun _ hk => hk.2) (.int .i64 t786)) (fun _ hk => hk.2) (.int .i64 t787)) (fun _ hk => hk.2) (.slice Ao94 t788.length co94)) (fun _ hk => ⟨hk.1.1.1, ⟨hk.1.1.2, hk.1.2⟩⟩)))⟩; have n2_ : Aside0 (Kd.R (Kd.int .i64) 3 w95 w.heap.size (fun k_ => some k_ ≠ (.slice Ao81 x14_3.length co81 : Value).ownBlock ∧ some k_ ≠ (.slice Ao25 t764.length co25 : Value).ownBlock ∧ some k_ ≠ (.slice Ao94 t788.length co94 : Value).ownBlock) (.slice Ao87 t781.length co87) t781) := ⟨(by rw [hw]; exact (by (with_reducible repeat (first | apply Kd.R_alloc | apply Kd.R_drewN | apply Kd.R_drew)); exact Kd.R_mono (Kd.R_far (p := ⟨gb792, 2, none⟩) (Kd.R_far (p := ⟨gb792, 1, none⟩) (Kd.R_far (p := ⟨gb792, 0, none⟩) (Kd.R_types HO783.out BK792.out (by decide)) (fun _ hk => hk.2) (.int .i64 t786)) (fun _ hk => hk.2) (.int .i64 t787)) (fun _ hk => hk.2) (.slice Ao94 t788.length co94)) (fun _ hk => ⟨hk.1.1.1.2, ⟨hk.1.1.2, hk.1.2⟩⟩)))⟩; have n3_ : Aside0 (Kd.R (Kd.int .i64) 3 w95 w.heap.size (fun k_ => some k_ ≠ (.slice Ao81 x14_3.length co81 : Value).ownBlock ∧ some k_ ≠ (.slice Ao25 t764.length co25 : Value).ownBlock ∧ some k_ ≠ (.slice Ao87 t781.length co87 : Value).ownBlock) (.slice Ao94 t788.length co94) t788) := ⟨(by rw [hw]; exact (by (with_reducible repeat (first | apply Kd.R_alloc | apply Kd.R_drewN | apply Kd.R_drew)); exact Kd.R_mono (Kd.R_far (p := ⟨gb792, 2, none⟩) (Kd.R_far (p := ⟨gb792, 1, none⟩) (Kd.R_far (p := ⟨gb792, 0, none⟩) (Kd.R_types HO790.out BK792.out (by decide)) (fun _ hk => hk.2) (.int .i64 t786)) (fun _ hk => hk.2) (.int .i64 t787)) (fun _ hk => hk.2) (.slice Ao94 t788.length co94)) (fun _ hk => ⟨hk.1.1.1.2, ⟨hk.1.1.2, hk.1.2⟩⟩)))⟩; have n4_ : Aside0 (w95.heap[gb759]? = some (.cells #[.int .i64 a0_0, .int .i64 a0_1, .slice A0_2 l0_2.length c0_2] 24 (0, 0))) := ⟨(by rw [hw]; exact (by (with_reducible repeat (first | refine blk_drewN ?_ _ | refine blk_drew ?_ | refine blk_alloc ?_ _)); refine blk_far ?_ NB759_792.out _; (with_reducible repeat (first | refine blk_drewN ?_ _ | refine blk_drew ?_ | refine blk_alloc ?_ _)); refine blk_far ?_ NB759_792.out _; (with_reducible repeat (first | refine blk_drewN ?_ _ | refine blk_drew ?_ | refine blk_alloc ?_ _)); refine blk_far ?_ NB759_792.out _; (with_reducible repeat (first | refine blk_drewN ?_ _ | refine blk_drew ?_ | refine blk_alloc ?_ _)); exact BK759.out))⟩; have n5_ : Aside0 (w95.heap[gb767]? = some (.cells #[.int .i64 t762, .int .i64 t763, .slice Ao25 t764.length co25] 24 (0, 0))) := ⟨(by rw [hw]; exact (by (with_reducible repeat (first | refine blk_drewN ?_ _ | refine blk_drew ?_ | refine blk_alloc ?_ _)); refine blk_far ?_ NB767_792.out _; (with_reducible repeat (first | refine blk_drewN ?_ _ | refine blk_drew ?_ | refine blk_alloc ?_ _)); refine blk_far ?_ NB767_792.out _; (with_reducible repeat (first | refine blk_drewN ?_ _ | refine blk_drew ?_ | refine blk_alloc ?_ _)); refine blk_far ?_ NB767_792.out _; (with_reducible repeat (first | refine blk_drewN ?_ _ | refine blk_drew ?_ | refine blk_alloc ?_ _)); exact BK767.out))⟩; have n6_ : Aside0 (w95.heap[gb785]? = some (.cells #[.int .i64 t779, .int .i64 t780, .slice Ao87 t781.length co87] 24 (0, 0))) := ⟨(by rw [hw]; exact (by (with_reducible repeat (first | refine blk_drewN ?_ _ | refine blk_drew ?_ | refine blk_alloc ?_ _)); refine blk_far ?_ NB785_792.out _; (with_reducible repeat (first | refine blk_drewN ?_ _ | refine blk_drew ?_ | refine blk_alloc ?_ _)); refine blk_far ?_ NB785_792.out _; (with_reducible repeat (first | refine blk_drewN ?_ _ | refine blk_drew ?_ | refine blk_alloc ?_ _)); refine blk_far ?_ NB785_792.out _; (with_reducible repeat (first | refine blk_drewN ?_ _ | refine blk_drew ?_ | refine blk_alloc ?_ _)); exact BK785.out))⟩; have n7_ : Aside0 (w95.heap[gb792]? = some (.cells #[.int .i64 t786, .int .i64 t787, .slice Ao94 t788.length co94] 24 (0, 0))) := ⟨(by rw [hw]; exact (by (with_reducible repeat (first | refine blk_drewN ?_ _ | refine blk_drew ?_ | refine blk_alloc ?_ _)); refine blk_put (cs := #[.int .i64 t786, .int .i64 t787, .slice none 0 0]) ?_ 2 _ rfl; (with_reducible repeat (first | refine blk_drewN ?_ _ | refine blk_drew ?_ | refine blk_alloc ?_ _)); refine blk_put (cs := #[.int .i64 t786, .int .i64 0, .slice none 0 0]) ?_ 1 _ rfl; (with_reducible repeat (first | refine blk_drewN ?_ _ | refine blk_drew ?_ | refine blk_alloc ?_ _)); refine blk_put (cs := #[.int .i64 0, .int .i64 0, .slice none 0 0]) ?_ 0 _ rfl; (with_reducible repeat (first | refine blk_drewN ?_ _ | refine blk_drew ?_ | refine blk_alloc ?_ _)); exact BK792.out))⟩; have n8_ : Aside0 (Below w.heap.size w w95) := ⟨(by rw [hw]; exact (nC HB))⟩; clear hw; clear HO_14; clear HO_768002; clear HO783; clear HO790; clear BK759; clear BK767; clear BK785; clear BK792; clear HB; have HO_14 := n0_; have HO_768002 := n1_; have HO783 := n2_; have HO790 := n3_; have BK759 := n4_; have BK767 := n5_; have BK785 := n6_; have BK792 := n7_; have HB := n8_; clear n0_ n1_ n2_ n3_ n4_ n5_ n6_ n7_ n8_; have hcz96_0 : w95.cell? ⟨gb785, 0, none⟩ = some (.int .i64 t779) := (blk_cell BK785.out 0).trans rfl; have hcz96_1 : w95.cell? ⟨gb785, 1, none⟩ = some (.int .i64 t780) := (blk_cell BK785.out 1).trans rfl; have hcz96_2 : w95.cell? ⟨gb785, 2, none⟩ = some (.slice Ao87 t781.length co87) := (blk_cell BK785.out 2).trans rfl; have hfz96_0 := blk_frozen BK785.out 0; have hfz96_1 := blk_frozen BK785.out 1; have hfz96_2 := blk_frozen BK785.out 2; have hcz97_0 : w95.cell? ⟨gb792, 0, none⟩ = some (.int .i64 t786) := (blk_cell BK792.out 0).trans rfl; have hcz97_1 : w95.cell? ⟨gb792, 1, none⟩ = some (.int .i64 t787) := (blk_cell BK792.out 1).trans rfl; have hcz97_2 : w95.cell? ⟨gb792, 2, none⟩ = some (.slice Ao94 t788.length co94) := (blk_cell BK792.out 2).trans rfl; have hfz97_0 := blk_frozen BK792.out 0; have hfz97_1 := blk_frozen BK792.out 1; have hfz97_2 := blk_frozen BK792.out 2) | ((with_reducible refine gate_callee (f := 33) rfl ?_); refine goesL_ (some 88) rfl rfl Try.func33 (by kernel_rfl) rfl #[.agg #[.int .i64 t779, .int .i64 t780, .slice Ao87 t781.length co87], .int .i64 t784, .agg #[.int .i64 t786, .int .i64 t787, .slice Ao94 t788.length co94], .int .i64 t791] rfl (by (try simp only [List.map_toArray, List.map_cons, List.map_nil]); first | done | rfl | (simp only [List.length_drop, List.length_take]; rfl)) ?_; (with_reducible refine (kimberlitelaw03_told.calls k3 t779 t780 (fun k_ => some k_ = (.slice Ao87 t781.length co87 : Value).ownBlock) (.slice Ao87 t781.length co87) t781 t784 t786 t787 _ _ t788 t791 true t794 w _ ?side1 ?side2 ?side3 ?side4 A51.out).mono ?_); (case side1 => repeat (first | (with_reducible first | exact HB.out | apply below_alloc | apply pw_below_drewN | apply below_drew1 | refine below_set ?_ GE759.out | refine below_set ?_ GE767.out | refine below_set ?_ GE785.out | refine below_set ?_ GE792.out) | exact HB.out)); (case side2 => exact Kd.R_tight rfl HO783.out); (case side3 => exact Kd.C_kept_own (HO790.out) (fun k_ hk_ hs_ => (hk_.2.2) hs_)); (case side4 => exact (Kd.R_reads' HO790.out).2.1); rintro e w98 ⟨rfl, hy0, hb, hkp⟩; refine ⟨_, rfl, ?_⟩; have n0_ := Aside0.mk (Kd.R_mono (ok' := fun k_ => some k_ ≠ (.slice Ao25 t764.length co25 : Value).ownBlock ∧ some k_ ≠ (.slice Ao87 t781.length co87 : Value).ownBlock ∧ some k_ ≠ (.slice Ao94 t788.length co94 : Value).ownBlock) (Kd.R_keptB (HO_14.out) hkp (fun k_ hk_ hs_ => (hk_.2.1) hs_)) (fun k_ hk_ => ⟨hk_.1.1, hk_.1.2.1, hk_.1.2.2⟩)); have n1_ := Aside0.mk (Kd.R_mono (ok' := fun k_ => some k_ ≠ (.slice Ao81 x14_3.length co81 : Value).ownBlock ∧ some k_ ≠ (.slice Ao87 t781.length co87 : Value).ownBlock ∧ some k_ ≠ (.slice Ao94 t788.length co94 : Value).ownBlock) (Kd.R_keptB (HO_768002.out) hkp (fun k_ hk_ hs_ => (hk_.2.1) hs_)) (fun k_ hk_ => ⟨hk_.1.1, hk_.1.2.1, hk_.1.2.2⟩)); have n2_ := Aside0.mk (blk_kept (nK BK759) hkp (fun hs_ => (fun e_ => (Kd.R_ne HO783.out BK759.out (by decide)) e_) hs_)); have n3_ := Aside0.mk (blk_kept (nK BK767) hkp (fun hs_ => (fun e_ => (Kd.R_ne HO783.out BK767.out (by decide)) e_) hs_)); have n4_ := Aside0.mk (Kd.R_reok rfl hy0 (fun k_ e_ => HO783.out.1 k_ e_)); have n5_ := Aside0.mk (blk_kept (nK BK785) hkp (fun hs_ => (fun e_ => (Kd.R_ne HO783.out BK785.out (by decide)) e_) hs_)); have n6_ := Aside0.mk (Kd.R_mono (ok' := fun k_ => some k_ ≠ (.slice Ao81 x14_3.length co81 : Value).ownBlock ∧ some k_ ≠ (.slice Ao25 t764.length co25 : Value).ownBlock ∧ some k_ ≠ (.slice Ao87 t781.length co87 : Value).ownBlock) (Kd.R_keptB (HO790.out) hkp (fun k_ hk_ hs_ => (hk_.2.2) hs_)) (fun k_ hk_ => ⟨hk_.1.1, hk_.1.2.1, hk_.1.2.2⟩)); have n7_ := Aside0.mk (blk_kept (nK BK792) hkp (fun hs_ => (fun e_ => (Kd.R_ne HO783.out BK792.out (by decide)) e_) hs_)); have n8_ := Aside0.mk (hb); clear HO_14; clear HO_768002; clear BK759; clear BK767; clear HO783; clear BK785; clear HO790; clear BK792; clear HB; have HO_14 := n0_; have HO_768002 := n1_; have BK759 := n2_; have BK767 := n3_; have HO783 := n4_; have BK785 := n5_; have HO790 := n6_; have BK792 := n7_; have HB := n8_; clear n0_ n1_ n2_ n3_ n4_ n5_ n6_ n7_ n8_; (try clear hb); (try clear hkp); (try clear hy0)) | (go_at_call 24; (with_reducible refine (kimberlitelaw03_same.calls k3 _ _ x14_3 _ _ l3 true _ ?side1 ?side2 ?side3 ?side4 A53.out).mono ?_); (case side1 => repeat (first | exact (Kd.R_reads' HO_14.out).2.2 | (with_reducible refine Kd.C_alloc ?_ _) | (with_reducible refine Kd.C_drewN ?_ _) | (with_reducible refine Kd.C_drew ?_))); (case side2 => exact (Kd.R_reads' HO_14.out).2.1); (case side3 => repeat (first | exact (Kd.C_below HR3.out HB.out) | (with_reducible refine Kd.C_alloc ?_ _) | (with_reducible refine Kd.C_drewN ?_ _) | (with_reducible refine Kd.C_drew ?_))); (case side4 => exact HC3.out); rintro e w' ⟨rfl, ⟨nd, rfl⟩⟩; have hnb99 := NB759_767.out; have hnc99 := NB767_759.out; have hcz100_0 : w98.cell? ⟨gb759, 0, none⟩ = some (.int .i64 a0_0) := (blk_cell BK759.out 0).trans rfl; have hcz100_1 : w98.cell? ⟨gb759, 1, none⟩ = some (.int .i64 a0_1) := (blk_cell BK759.out 1).trans rfl; have hcz100_2 : w98.cell? ⟨gb759, 2, none⟩ = some (.slice A0_2 l0_2.length c0_2) := (blk_cell BK759.out 2).trans rfl; have hfz100_0 := blk_frozen BK759.out 0; have hfz100_1 := blk_frozen BK759.out 1; have hfz100_2 := blk_frozen BK759.out 2; have hcz101_0 : w98.cell? ⟨gb767, 0, none⟩ = some (.int .i64 t762) := (blk_cell BK767.out 0).trans rfl; have hcz101_1 : w98.cell? ⟨gb767, 1, none⟩ = some (.int .i64 t763) := (blk_cell BK767.out 1).trans rfl; have hcz101_2 : w98.cell? ⟨gb767, 2, none⟩ = some (.slice Ao25 t764.length co25) := (blk_cell BK767.out 2).trans rfl; have hfz101_0 := blk_frozen BK767.out 0; have hfz101_1 := blk_frozen BK767.out 1; have hfz101_2 := blk_frozen BK767.out 2) | (go_at_call 15; (with_reducible refine (kimberlitelaw03_alike.calls k3 a0_0 a0_1 _ _ l0_2 t762 t763 _ _ t764 false _ ?side1 ?side2 ?side3 ?side4 A55.out).mono ?_); (case side1 => repeat (first | exact (Kd.C_below HR0_2.out (nC HB)) | (with_reducible refine Kd.C_alloc ?_ _) | (with_reducible refine Kd.C_drewN ?_ _) | (with_reducible refine Kd.C_drew ?_))); (case side2 => exact HC0_2.out); (case side3 => repeat (first | exact (Kd.R_reads' HO_768002.out).2.2 | (with_reducible refine Kd.C_alloc ?_ _) | (with_reducible refine Kd.C_drewN ?_ _) | (with_reducible refine Kd.C_drew ?_))); (case side4 => exact (Kd.R_reads' HO_768002.out).2.1); rintro e w102 ⟨rfl, hb⟩; have n0_ := Aside0.mk (Kd.R_below (nR HO_14) hb); have n1_ := Aside0.mk (Kd.R_below (nR HO_768002) hb); have n2_ := Aside0.mk (Kd.R_below (nR HO783) hb); have n3_ := Aside0.mk (Kd.R_below (nR HO790) hb); have n4_ := Aside0.mk (nB BK759 hb); have n5_ := Aside0.mk (nB BK767 hb); have n6_ := Aside0.mk (nB BK785 hb); have n7_ := Aside0.mk (nB BK792 hb); have n8_ := Aside0.mk (below_step (nC HB) hb); clear HO_14; clear HO_768002; clear HO783; clear HO790; clear BK759; clear BK767; clear BK785; clear BK792; clear HB; have HO_14 := n0_; have HO_768002 := n1_; have HO783 := n2_; have HO790 := n3_; have BK759 := n4_; have BK767 := n5_; have BK785 := n6_; have BK792 := n7_; have HB := n8_; clear n0_ n1_ n2_ n3_ n4_ n5_ n6_ n7_ n8_; (try clear hb); (try clear hb2); (try clear hk); (try clear hi)))
                       go_ret
                       exact ⟨by first | rfl | (simp [errW_none, errW_some] <;> rfl) | (simp [*, errW_none, errW_some] <;> rfl), nC HB⟩
                   · replace c54 := Bool.eq_false_iff.mpr c54
                     subst c54
                     have H1 : (some false) = some r := by rw [if_neg (show ¬ (false = true) by decide)] at H; exact H
                     clear H
                     have H := H1
                     clear H1
                     obtain rfl := Option.some.inj H
                     obtain ⟨Ao103, co103, eo103⟩ := Kd.R_slice HO_14.out
                     subst eo103
                     go_wp2_with (first | ((with_reducible refine gate_callee (f := 31) rfl ?_); refine goesL_ (some 75) rfl rfl Try.func31 (by kernel_rfl) rfl #[.int .i64 a2, .slice Ao103 x14_3.length co103] rfl (by (try simp only [List.map_toArray, List.map_cons, List.map_nil]); first | done | rfl | (simp only [List.length_drop, List.length_take]; rfl)) ?_; (with_reducible refine (curve_Of.calls k3 a2 _ _ x14_3 t779 t780 t781 t784 _ ?side1 ?side2 A49.out).mono ?_); (case side1 => repeat (first | exact (Kd.R_reads' HO_14.out).2.2 | (with_reducible refine Kd.C_alloc ?_ _) | (with_reducible refine Kd.C_drewN ?_ _) | (with_reducible refine Kd.C_drew ?_))); (case side2 => exact (Kd.R_reads' HO_14.out).2.1); rintro e w104 ⟨v782, rfl, ho0, hb⟩; refine ⟨_, rfl, ?_⟩; have n0_ := Aside0.mk (Kd.R_elder' (nR HO_14) (Kd.R_base ho0) hb); have n1_ := Aside0.mk (Kd.R_elder' (nR HO_768002) (Kd.R_base ho0) hb); have n2_ := Aside0.mk (Kd.R_lower (Kd.R_new' (Kd.R_new' ho0 (Kd.R_lt (nR HO_14))) (Kd.R_lt (nR HO_768002))) (below_size (nC HB))); have n3_ := Aside0.mk (nB BK759 hb); have n4_ := Aside0.mk (nB BK767 hb); have n5_ := Aside0.mk (below_step (nC HB) hb); clear HO_14; clear HO_768002; clear BK759; clear BK767; clear HB; have HO_14 := n0_; have HO_768002 := n1_; have HO783 := n2_; have BK759 := n3_; have BK767 := n4_; have HB := n5_; clear n0_ n1_ n2_ n3_ n4_ n5_; (try clear hb); (try clear hb2); (try clear hk); (try clear hi); (try clear ho0)) | ((with_reducible refine gate_dst (N := 16) rfl ?_); (try (refine gate_guard (by rfl) ?_; dsimp only)); refine box_event ?hg (N := 16) ?hd (cs := #[.int .i64 0, .int .i64 0, .slice none 0 0]) (t := 24) ?hr ?_; (case hd => rfl); (case hg => rfl); (case hr => first | (go_simp; done) | (go_simp; rfl)); intro gb785 hg w105 hbox hb; have n0_ := Aside0.mk (Kd.R_below (nR HO_14) hb); have n1_ := Aside0.mk (Kd.R_below (nR HO_768002) hb); have n2_ := Aside0.mk (Kd.R_below (nR HO783) hb); have n3_ := Aside0.mk (nB BK759 hb); have n4_ := Aside0.mk (nB BK767 hb); have n5_ := Aside0.mk (below_step (nC HB) hb); have n6_ := Aside0.mk (hbox); have n7_ := Aside0.mk ((by rw [hg]; exact (below_size (nC HB)) : w.heap.size ≤ gb785)); have n8_ := Aside0.mk ((by rw [hg]; exact (below_size (nC HB)) : w.heap.size ≤ gb785)); have n9_ := Aside0.mk ((by rw [hg]; exact Nat.ne_of_lt (blk_lt (g := gb759) (o := .cells #[.int .i64 a0_0, .int .i64 a0_1, .slice A0_2 l0_2.length c0_2] 24 (0, 0)) (nK BK759)) : gb759 ≠ gb785)); have n10_ := Aside0.mk ((by rw [hg]; exact Nat.ne_of_gt (blk_lt (g := gb759) (o := .cells #[.int .i64 a0_0, .int .i64 a0_1, .slice A0_2 l0_2.length c0_2] 24 (0, 0)) (nK BK759)) : gb785 ≠ gb759)); have n11_ := Aside0.mk ((by rw [hg]; exact Nat.ne_of_lt (blk_lt (g := gb767) (o := .cells #[.int .i64 t762, .int .i64 t763, .slice Ao25 t764.length co25] 24 (0, 0)) (nK BK767)) : gb767 ≠ gb785)); have n12_ := Aside0.mk ((by rw [hg]; exact Nat.ne_of_gt (blk_lt (g := gb767) (o := .cells #[.int .i64 t762, .int .i64 t763, .slice Ao25 t764.length co25] 24 (0, 0)) (nK BK767)) : gb785 ≠ gb767)); clear HO_14; clear HO_768002; clear HO783; clear BK759; clear BK767; clear HB; have HO_14 := n0_; have HO_768002 := n1_; have HO783 := n2_; have BK759 := n3_; have BK767 := n4_; have HB := n5_; have BK785 := n6_; have GW785 := n7_; have GE785 := n8_; have NB759_785 := n9_; have NB785_759 := n10_; have NB767_785 := n11_; have NB785_767 := n12_; clear n0_ n1_ n2_ n3_ n4_ n5_ n6_ n7_ n8_ n9_ n10_ n11_ n12_; clear hb hbox hg; have hnb106 := NB785_759.out; have hnc106 := NB759_785.out; have hnb107 := NB785_767.out; have hnc107 := NB767_785.out; have hcz108_0 : w105.cell? ⟨gb785, 0, none⟩ = some (.int .i64 0) := (blk_cell BK785.out 0).trans rfl; have hcz108_1 : w105.cell? ⟨gb785, 1, none⟩ = some (.int .i64 0) := (blk_cell BK785.out 1).trans rfl; have hcz108_2 : w105.cell? ⟨gb785, 2, none⟩ = some (.slice none 0 0) := (blk_cell BK785.out 2).trans rfl; have hfz108_0 := blk_frozen BK785.out 0; have hfz108_1 := blk_frozen BK785.out 1; have hfz108_2 := blk_frozen BK785.out 2; obtain ⟨Ao109, co109, eo109⟩ := Kd.R_slice HO783.out; subst eo109) | ((with_reducible refine gate_callee (f := 32) rfl ?_); refine goesL_ (some 81) rfl rfl Try.func32 (by kernel_rfl) rfl #[.int .i64 a2, .slice A3 l3.length c3] rfl (by (try simp only [List.map_toArray, List.map_cons, List.map_nil]); first | done | rfl | (simp only [List.length_drop, List.length_take]; rfl)) ?_; (with_reducible refine (kimberliteref03_Of.calls k3 a2 _ _ l3 t786 t787 t788 t791 _ ?side1 ?side2 A50.out).mono ?_); (case side1 => exact Kd.C_below HR3.out (nC HB)); (case side2 => exact HC3.out); rintro e w110 ⟨v789, rfl, ho0, hb⟩; refine ⟨_, rfl, ?_⟩; have n0_ := Aside0.mk (Kd.R_elder' (by (with_reducible repeat (first | apply Kd.R_alloc | apply Kd.R_drewN | apply Kd.R_drew)); exact (Kd.R_mono (Kd.R_far (p := ⟨gb785, 2, none⟩) (Kd.R_far (p := ⟨gb785, 1, none⟩) (Kd.R_far (p := ⟨gb785, 0, none⟩) (Kd.R_types HO_14.out BK785.out (by decide)) (fun _ hk => hk.2) (.int .i64 t779)) (fun _ hk => hk.2) (.int .i64 t780)) (fun _ hk => hk.2) (.slice Ao109 t781.length co109)) (fun _ h_ => h_.1))) (Kd.R_base ho0) hb); have n1_ := Aside0.mk (Kd.R_elder' (by (with_reducible repeat (first | apply Kd.R_alloc | apply Kd.R_drewN | apply Kd.R_drew)); exact (Kd.R_mono (Kd.R_far (p := ⟨gb785, 2, none⟩) (Kd.R_far (p := ⟨gb785, 1, none⟩) (Kd.R_far (p := ⟨gb785, 0, none⟩) (Kd.R_types HO_768002.out BK785.out (by decide)) (fun _ hk => hk.2) (.int .i64 t779)) (fun _ hk => hk.2) (.int .i64 t780)) (fun _ hk => hk.2) (.slice Ao109 t781.length co109)) (fun _ h_ => h_.1))) (Kd.R_base ho0) hb); have n2_ := Aside0.mk (Kd.R_elder' (by (with_reducible repeat (first | apply Kd.R_alloc | apply Kd.R_drewN | apply Kd.R_drew)); exact (Kd.R_mono (Kd.R_far (p := ⟨gb785, 2, none⟩) (Kd.R_far (p := ⟨gb785, 1, none⟩) (Kd.R_far (p := ⟨gb785, 0, none⟩) (Kd.R_types HO783.out BK785.out (by decide)) (fun _ hk => hk.2) (.int .i64 t779)) (fun _ hk => hk.2) (.int .i64 t780)) (fun _ hk => hk.2) (.slice Ao109 t781.length co109)) (fun _ h_ => h_.1))) (Kd.R_base ho0) hb); have n3_ := Aside0.mk (Kd.R_lower (Kd.R_new' (Kd.R_new' (Kd.R_new' ho0 (Kd.R_lt (by (with_reducible repeat (first | apply Kd.R_alloc | apply Kd.R_drewN | apply Kd.R_drew)); exact (Kd.R_mono (Kd.R_far (p := ⟨gb785, 2, none⟩) (Kd.R_far (p := ⟨gb785, 1, none⟩) (Kd.R_far (p := ⟨gb785, 0, none⟩) (Kd.R_types HO_14.out BK785.out (by decide)) (fun _ hk => hk.2) (.int .i64 t779)) (fun _ hk => hk.2) (.int .i64 t780)) (fun _ hk => hk.2) (.slice Ao109 t781.length co109)) (fun _ h_ => h_.1))))) (Kd.R_lt (by (with_reducible repeat (first | apply Kd.R_alloc | apply Kd.R_drewN | apply Kd.R_drew)); exact (Kd.R_mono (Kd.R_far (p := ⟨gb785, 2, none⟩) (Kd.R_far (p := ⟨gb785, 1, none⟩) (Kd.R_far (p := ⟨gb785, 0, none⟩) (Kd.R_types HO_768002.out BK785.out (by decide)) (fun _ hk => hk.2) (.int .i64 t779)) (fun _ hk => hk.2) (.int .i64 t780)) (fun _ hk => hk.2) (.slice Ao109 t781.length co109)) (fun _ h_ => h_.1))))) (Kd.R_lt (by (with_reducible repeat (first | apply Kd.R_alloc | apply Kd.R_drewN | apply Kd.R_drew)); exact (Kd.R_mono (Kd.R_far (p := ⟨gb785, 2, none⟩) (Kd.R_far (p := ⟨gb785, 1, none⟩) (Kd.R_far (p := ⟨gb785, 0, none⟩) (Kd.R_types HO783.out BK785.out (by decide)) (fun _ hk => hk.2) (.int .i64 t779)) (fun _ hk => hk.2) (.int .i64 t780)) (fun _ hk => hk.2) (.slice Ao109 t781.length co109)) (fun _ h_ => h_.1))))) (below_size (nC HB))); have n4_ := Aside0.mk (blk_below (g := gb759) (o := .cells #[.int .i64 a0_0, .int .i64 a0_1, .slice A0_2 l0_2.length c0_2] 24 (0, 0)) (by (with_reducible repeat (first | refine blk_drewN ?_ _ | refine blk_drew ?_ | refine blk_alloc ?_ _)); refine blk_far ?_ NB759_785.out _; (with_reducible repeat (first | refine blk_drewN ?_ _ | refine blk_drew ?_ | refine blk_alloc ?_ _)); refine blk_far ?_ NB759_785.out _; (with_reducible repeat (first | refine blk_drewN ?_ _ | refine blk_drew ?_ | refine blk_alloc ?_ _)); refine blk_far ?_ NB759_785.out _; (with_reducible repeat (first | refine blk_drewN ?_ _ | refine blk_drew ?_ | refine blk_alloc ?_ _)); exact BK759.out) hb); have n5_ := Aside0.mk (blk_below (g := gb767) (o := .cells #[.int .i64 t762, .int .i64 t763, .slice Ao25 t764.length co25] 24 (0, 0)) (by (with_reducible repeat (first | refine blk_drewN ?_ _ | refine blk_drew ?_ | refine blk_alloc ?_ _)); refine blk_far ?_ NB767_785.out _; (with_reducible repeat (first | refine blk_drewN ?_ _ | refine blk_drew ?_ | refine blk_alloc ?_ _)); refine blk_far ?_ NB767_785.out _; (with_reducible repeat (first | refine blk_drewN ?_ _ | refine blk_drew ?_ | refine blk_alloc ?_ _)); refine blk_far ?_ NB767_785.out _; (with_reducible repeat (first | refine blk_drewN ?_ _ | refine blk_drew ?_ | refine blk_alloc ?_ _)); exact BK767.out) hb); have n6_ := Aside0.mk (blk_below (g := gb785) (o := .cells #[.int .i64 t779, .int .i64 t780, .slice Ao109 t781.length co109] 24 (0, 0)) (by (with_reducible repeat (first | refine blk_drewN ?_ _ | refine blk_drew ?_ | refine blk_alloc ?_ _)); refine blk_put (cs := #[.int .i64 t779, .int .i64 t780, .slice none 0 0]) ?_ 2 _ rfl; (with_reducible repeat (first | refine blk_drewN ?_ _ | refine blk_drew ?_ | refine blk_alloc ?_ _)); refine blk_put (cs := #[.int .i64 t779, .int .i64 0, .slice none 0 0]) ?_ 1 _ rfl; (with_reducible repeat (first | refine blk_drewN ?_ _ | refine blk_drew ?_ | refine blk_alloc ?_ _)); refine blk_put (cs := #[.int .i64 0, .int .i64 0, .slice none 0 0]) ?_ 0 _ rfl; (with_reducible repeat (first | refine blk_drewN ?_ _ | refine blk_drew ?_ | refine blk_alloc ?_ _)); exact BK785.out) hb); have n7_ := Aside0.mk (below_step (nC HB) hb); clear HO_14; clear HO_768002; clear HO783; clear BK759; clear BK767; clear BK785; clear HB; have HO_14 := n0_; have HO_768002 := n1_; have HO783 := n2_; have HO790 := n3_; have BK759 := n4_; have BK767 := n5_; have BK785 := n6_; have HB := n7_; clear n0_ n1_ n2_ n3_ n4_ n5_ n6_ n7_; (try clear hb); (try clear hb2); (try clear hk); (try clear hi); (try clear ho0)) | ((with_reducible refine gate_dst (N := 17) rfl ?_); (try (refine gate_guard (by rfl) ?_; dsimp only)); refine box_event ?hg (N := 17) ?hd (cs := #[.int .i64 0, .int .i64 0, .slice none 0 0]) (t := 24) ?hr ?_; (case hd => rfl); (case hg => rfl); (case hr => first | (go_simp; done) | (go_simp; rfl)); intro gb792 hg w111 hbox hb; have n0_ := Aside0.mk (Kd.R_below (nR HO_14) hb); have n1_ := Aside0.mk (Kd.R_below (nR HO_768002) hb); have n2_ := Aside0.mk (Kd.R_below (nR HO783) hb); have n3_ := Aside0.mk (Kd.R_below (nR HO790) hb); have n4_ := Aside0.mk (nB BK759 hb); have n5_ := Aside0.mk (nB BK767 hb); have n6_ := Aside0.mk (nB BK785 hb); have n7_ := Aside0.mk (below_step (nC HB) hb); have n8_ := Aside0.mk (hbox); have n9_ := Aside0.mk ((by rw [hg]; exact (below_size (nC HB)) : w.heap.size ≤ gb792)); have n10_ := Aside0.mk ((by rw [hg]; exact (below_size (nC HB)) : w.heap.size ≤ gb792)); have n11_ := Aside0.mk ((by rw [hg]; exact Nat.ne_of_lt (blk_lt (g := gb759) (o := .cells #[.int .i64 a0_0, .int .i64 a0_1, .slice A0_2 l0_2.length c0_2] 24 (0, 0)) (nK BK759)) : gb759 ≠ gb792)); have n12_ := Aside0.mk ((by rw [hg]; exact Nat.ne_of_gt (blk_lt (g := gb759) (o := .cells #[.int .i64 a0_0, .int .i64 a0_1, .slice A0_2 l0_2.length c0_2] 24 (0, 0)) (nK BK759)) : gb792 ≠ gb759)); have n13_ := Aside0.mk ((by rw [hg]; exact Nat.ne_of_lt (blk_lt (g := gb767) (o := .cells #[.int .i64 t762, .int .i64 t763, .slice Ao25 t764.length co25] 24 (0, 0)) (nK BK767)) : gb767 ≠ gb792)); have n14_ := Aside0.mk ((by rw [hg]; exact Nat.ne_of_gt (blk_lt (g := gb767) (o := .cells #[.int .i64 t762, .int .i64 t763, .slice Ao25 t764.length co25] 24 (0, 0)) (nK BK767)) : gb792 ≠ gb767)); have n15_ := Aside0.mk ((by rw [hg]; exact Nat.ne_of_lt (blk_lt (g := gb785) (o := .cells #[.int .i64 t779, .int .i64 t780, .slice Ao109 t781.length co109] 24 (0, 0)) (nK BK785)) : gb785 ≠ gb792)); have n16_ := Aside0.mk ((by rw [hg]; exact Nat.ne_of_gt (blk_lt (g := gb785) (o := .cells #[.int .i64 t779, .int .i64 t780, .slice Ao109 t781.length co109] 24 (0, 0)) (nK BK785)) : gb792 ≠ gb785)); clear HO_14; clear HO_768002; clear HO783; clear HO790; clear BK759; clear BK767; clear BK785; clear HB; have HO_14 := n0_; have HO_768002 := n1_; have HO783 := n2_; have HO790 := n3_; have BK759 := n4_; have BK767 := n5_; have BK785 := n6_; have HB := n7_; have BK792 := n8_; have GW792 := n9_; have GE792 := n10_; have NB759_792 := n11_; have NB792_759 := n12_; have NB767_792 := n13_; have NB792_767 := n14_; have NB785_792 := n15_; have NB792_785 := n16_; clear n0_ n1_ n2_ n3_ n4_ n5_ n6_ n7_ n8_ n9_ n10_ n11_ n12_ n13_ n14_ n15_ n16_; clear hb hbox hg; have hnb112 := NB792_759.out; have hnc112 := NB759_792.out; have hnb113 := NB792_767.out; have hnc113 := NB767_792.out; have hnb114 := NB792_785.out; have hnc114 := NB785_792.out; have hcz115_0 : w111.cell? ⟨gb792, 0, none⟩ = some (.int .i64 0) := (blk_cell BK792.out 0).trans rfl; have hcz115_1 : w111.cell? ⟨gb792, 1, none⟩ = some (.int .i64 0) := (blk_cell BK792.out 1).trans rfl; have hcz115_2 : w111.cell? ⟨gb792, 2, none⟩ = some (.slice none 0 0) := (blk_cell BK792.out 2).trans rfl; have hfz115_0 := blk_frozen BK792.out 0; have hfz115_1 := blk_frozen BK792.out 1; have hfz115_2 := blk_frozen BK792.out 2; obtain ⟨Ao116, co116, eo116⟩ := Kd.R_slice HO790.out; subst eo116) | ((with_reducible refine gate_store (t := 24) (p := 17) rfl ?_); refine store_event (t := 24) (p := 17) (v := ?vo_w117) (w1 := (((w111.setCell ⟨gb792, 0, none⟩ (.int .i64 t786)).setCell ⟨gb792, 1, none⟩ (.int .i64 t787)).setCell ⟨gb792, 2, none⟩ (.slice Ao116 t788.length co116))) ?hg ?ho ?hn ?hr ?_; (case ho => rfl); (case hg => rfl); (case hn => rfl); (case hr => first | (go_simp; done) | (go_simp; rfl)); intro w117 hw; have n0_ : Aside0 (Kd.R (Kd.int .i64) 3 w117 w.heap.size (fun k_ => some k_ ≠ (.slice Ao25 t764.length co25 : Value).ownBlock ∧ some k_ ≠ (.slice Ao109 t781.length co109 : Value).ownBlock ∧ some k_ ≠ (.slice Ao116 t788.length co116 : Value).ownBlock) (.slice Ao103 x14_3.length co103) x14_3) := ⟨(by rw [hw]; exact (by (with_reducible repeat (first | apply Kd.R_alloc | apply Kd.R_drewN | apply Kd.R_drew)); exact Kd.R_mono (Kd.R_far (p := ⟨gb792, 2, none⟩) (Kd.R_far (p := ⟨gb792, 1, none⟩) (Kd.R_far (p := ⟨gb792, 0, none⟩) (Kd.R_types HO_14.out BK792.out (by decide)) (fun _ hk => hk.2) (.int .i64 t786)) (fun _ hk => hk.2) (.int .i64 t787)) (fun _ hk => hk.2) (.slice Ao116 t788.length co116)) (fun _ hk => ⟨hk.1.1.1, ⟨hk.1.1.2, hk.1.2⟩⟩)))⟩; have n1_ : Aside0 (Kd.R (Kd.int .i64) 3 w117 w.heap.size (fun k_ => some k_ ≠ (.slice Ao103 x14_3.length co103 : Value).ownBlock ∧ some k_ ≠ (.slice Ao109 t781.length co109 : Value).ownBlock ∧ some k_ ≠ (.slice Ao116 t788.length co116 : Value).ownBlock) (.slice Ao25 t764.length co25) t764) := ⟨(by rw [hw]; exact (by (with_reducible repeat (first | apply Kd.R_alloc | apply Kd.R_drewN | apply Kd.R_drew)); exact Kd.R_mono (Kd.R_far (p := ⟨gb792, 2, none⟩) (Kd.R_far (p := ⟨gb792, 1, none⟩) (Kd.R_far (p := ⟨gb792, 0, none⟩) (Kd.R_types HO_768002.out BK792.out (by decide)) (fun _ hk => hk.2) (.int .i64 t786)) (fun _ hk => hk.2) (.int .i64 t787)) (fun _ hk => hk.2) (.slice Ao116 t788.length co116)) (fun _ hk => ⟨hk.1.1.1, ⟨hk.1.1.2, hk.1.2⟩⟩)))⟩; have n2_ : Aside0 (Kd.R (Kd.int .i64) 3 w117 w.heap.size (fun k_ => some k_ ≠ (.slice Ao103 x14_3.length co103 : Value).ownBlock ∧ some k_ ≠ (.slice Ao25 t764.length co25 : Value).ownBlock ∧ some k_ ≠ (.slice Ao116 t788.length co116 : Value).ownBlock) (.slice Ao109 t781.length co109) t781) := ⟨(by rw [hw]; exact (by (with_reducible repeat (first | apply Kd.R_alloc | apply Kd.R_drewN | apply Kd.R_drew)); exact Kd.R_mono (Kd.R_far (p := ⟨gb792, 2, none⟩) (Kd.R_far (p := ⟨gb792, 1, none⟩) (Kd.R_far (p := ⟨gb792, 0, none⟩) (Kd.R_types HO783.out BK792.out (by decide)) (fun _ hk => hk.2) (.int .i64 t786)) (fun _ hk => hk.2) (.int .i64 t787)) (fun _ hk => hk.2) (.slice Ao116 t788.length co116)) (fun _ hk => ⟨hk.1.1.1.2, ⟨hk.1.1.2, hk.1.2⟩⟩)))⟩; have n3_ : Aside0 (Kd.R (Kd.int .i64) 3 w117 w.heap.size (fun k_ => some k_ ≠ (.slice Ao103 x14_3.length co103 : Value).ownBlock ∧ some k_ ≠ (.slice Ao25 t764.length co25 : Value).ownBlock ∧ some k_ ≠ (.slice Ao109 t781.length co109 : Value).ownBlock) (.slice Ao116 t788.length co116) t788) := ⟨(by rw [hw]; exact (by (with_reducible repeat (first | apply Kd.R_alloc | apply Kd.R_drewN | apply Kd.R_drew)); exact Kd.R_mono (Kd.R_far (p := ⟨gb792, 2, none⟩) (Kd.R_far (p := ⟨gb792, 1, none⟩) (Kd.R_far (p := ⟨gb792, 0, none⟩) (Kd.R_types HO790.out BK792.out (by decide)) (fun _ hk => hk.2) (.int .i64 t786)) (fun _ hk => hk.2) (.int .i64 t787)) (fun _ hk => hk.2) (.slice Ao116 t788.length co116)) (fun _ hk => ⟨hk.1.1.1.2, ⟨hk.1.1.2, hk.1.2⟩⟩)))⟩; have n4_ : Aside0 (w117.heap[gb759]? = some (.cells #[.int .i64 a0_0, .int .i64 a0_1, .slice A0_2 l0_2.length c0_2] 24 (0, 0))) := ⟨(by rw [hw]; exact (by (with_reducible repeat (first | refine blk_drewN ?_ _ | refine blk_drew ?_ | refine blk_alloc ?_ _)); refine blk_far ?_ NB759_792.out _; (with_reducible repeat (first | refine blk_drewN ?_ _ | refine blk_drew ?_ | refine blk_alloc ?_ _)); refine blk_far ?_ NB759_792.out _; (with_reducible repeat (first | refine blk_drewN ?_ _ | refine blk_drew ?_ | refine blk_alloc ?_ _)); refine blk_far ?_ NB759_792.out _; (with_reducible repeat (first | refine blk_drewN ?_ _ | refine blk_drew ?_ | refine blk_alloc ?_ _)); exact BK759.out))⟩; have n5_ : Aside0 (w117.heap[gb767]? = some (.cells #[.int .i64 t762, .int .i64 t763, .slice Ao25 t764.length co25] 24 (0, 0))) := ⟨(by rw [hw]; exact (by (with_reducible repeat (first | refine blk_drewN ?_ _ | refine blk_drew ?_ | refine blk_alloc ?_ _)); refine blk_far ?_ NB767_792.out _; (with_reducible repeat (first | refine blk_drewN ?_ _ | refine blk_drew ?_ | refine blk_alloc ?_ _)); refine blk_far ?_ NB767_792.out _; (with_reducible repeat (first | refine blk_drewN ?_ _ | refine blk_drew ?_ | refine blk_alloc ?_ _)); refine blk_far ?_ NB767_792.out _; (with_reducible repeat (first | refine blk_drewN ?_ _ | refine blk_drew ?_ | refine blk_alloc ?_ _)); exact BK767.out))⟩; have n6_ : Aside0 (w117.heap[gb785]? = some (.cells #[.int .i64 t779, .int .i64 t780, .slice Ao109 t781.length co109] 24 (0, 0))) := ⟨(by rw [hw]; exact (by (with_reducible repeat (first | refine blk_drewN ?_ _ | refine blk_drew ?_ | refine blk_alloc ?_ _)); refine blk_far ?_ NB785_792.out _; (with_reducible repeat (first | refine blk_drewN ?_ _ | refine blk_drew ?_ | refine blk_alloc ?_ _)); refine blk_far ?_ NB785_792.out _; (with_reducible repeat (first | refine blk_drewN ?_ _ | refine blk_drew ?_ | refine blk_alloc ?_ _)); refine blk_far ?_ NB785_792.out _; (with_reducible repeat (first | refine blk_drewN ?_ _ | refine blk_drew ?_ | refine blk_alloc ?_ _)); exact BK785.out))⟩; have n7_ : Aside0 (w117.heap[gb792]? = some (.cells #[.int .i64 t786, .int .i64 t787, .slice Ao116 t788.length co116] 24 (0, 0))) := ⟨(by rw [hw]; exact (by (with_reducible repeat (first | refine blk_drewN ?_ _ | refine blk_drew ?_ | refine blk_alloc ?_ _)); refine blk_put (cs := #[.int .i64 t786, .int .i64 t787, .slice none 0 0]) ?_ 2 _ rfl; (with_reducible repeat (first | refine blk_drewN ?_ _ | refine blk_drew ?_ | refine blk_alloc ?_ _)); refine blk_put (cs := #[.int .i64 t786, .int .i64 0, .slice none 0 0]) ?_ 1 _ rfl; (with_reducible repeat (first | refine blk_drewN ?_ _ | refine blk_drew ?_ | refine blk_alloc ?_ _)); refine blk_put (cs := #[.int .i64 0, .int .i64 0, .slice none 0 0]) ?_ 0 _ rfl; (with_reducible repeat (first | refine blk_drewN ?_ _ | refine blk_drew ?_ | refine blk_alloc ?_ _)); exact BK792.out))⟩; have n8_ : Aside0 (Below w.heap.size w w117) := ⟨(by rw [hw]; exact (nC HB))⟩; clear hw; clear HO_14; clear HO_768002; clear HO783; clear HO790; clear BK759; clear BK767; clear BK785; clear BK792; clear HB; have HO_14 := n0_; have HO_768002 := n1_; have HO783 := n2_; have HO790 := n3_; have BK759 := n4_; have BK767 := n5_; have BK785 := n6_; have BK792 := n7_; have HB := n8_; clear n0_ n1_ n2_ n3_ n4_ n5_ n6_ n7_ n8_; have hcz118_0 : w117.cell? ⟨gb785, 0, none⟩ = some (.int .i64 t779) := (blk_cell BK785.out 0).trans rfl; have hcz118_1 : w117.cell? ⟨gb785, 1, none⟩ = some (.int .i64 t780) := (blk_cell BK785.out 1).trans rfl; have hcz118_2 : w117.cell? ⟨gb785, 2, none⟩ = some (.slice Ao109 t781.length co109) := (blk_cell BK785.out 2).trans rfl; have hfz118_0 := blk_frozen BK785.out 0; have hfz118_1 := blk_frozen BK785.out 1; have hfz118_2 := blk_frozen BK785.out 2; have hcz119_0 : w117.cell? ⟨gb792, 0, none⟩ = some (.int .i64 t786) := (blk_cell BK792.out 0).trans rfl; have hcz119_1 : w117.cell? ⟨gb792, 1, none⟩ = some (.int .i64 t787) := (blk_cell BK792.out 1).trans rfl; have hcz119_2 : w117.cell? ⟨gb792, 2, none⟩ = some (.slice Ao116 t788.length co116) := (blk_cell BK792.out 2).trans rfl; have hfz119_0 := blk_frozen BK792.out 0; have hfz119_1 := blk_frozen BK792.out 1; have hfz119_2 := blk_frozen BK792.out 2) | ((with_reducible refine gate_callee (f := 33) rfl ?_); refine goesL_ (some 88) rfl rfl Try.func33 (by kernel_rfl) rfl #[.agg #[.int .i64 t779, .int .i64 t780, .slice Ao109 t781.length co109], .int .i64 t784, .agg #[.int .i64 t786, .int .i64 t787, .slice Ao116 t788.length co116], .int .i64 t791] rfl (by (try simp only [List.map_toArray, List.map_cons, List.map_nil]); first | done | rfl | (simp only [List.length_drop, List.length_take]; rfl)) ?_; (with_reducible refine (kimberlitelaw03_told.calls k3 t779 t780 (fun k_ => some k_ = (.slice Ao109 t781.length co109 : Value).ownBlock) (.slice Ao109 t781.length co109) t781 t784 t786 t787 _ _ t788 t791 true t794 w _ ?side1 ?side2 ?side3 ?side4 A51.out).mono ?_); (case side1 => repeat (first | (with_reducible first | exact HB.out | apply below_alloc | apply pw_below_drewN | apply below_drew1 | refine below_set ?_ GE759.out | refine below_set ?_ GE767.out | refine below_set ?_ GE785.out | refine below_set ?_ GE792.out) | exact HB.out)); (case side2 => exact Kd.R_tight rfl HO783.out); (case side3 => exact Kd.C_kept_own (HO790.out) (fun k_ hk_ hs_ => (hk_.2.2) hs_)); (case side4 => exact (Kd.R_reads' HO790.out).2.1); rintro e w120 ⟨rfl, hy0, hb, hkp⟩; refine ⟨_, rfl, ?_⟩; have n0_ := Aside0.mk (Kd.R_mono (ok' := fun k_ => some k_ ≠ (.slice Ao25 t764.length co25 : Value).ownBlock ∧ some k_ ≠ (.slice Ao109 t781.length co109 : Value).ownBlock ∧ some k_ ≠ (.slice Ao116 t788.length co116 : Value).ownBlock) (Kd.R_keptB (HO_14.out) hkp (fun k_ hk_ hs_ => (hk_.2.1) hs_)) (fun k_ hk_ => ⟨hk_.1.1, hk_.1.2.1, hk_.1.2.2⟩)); have n1_ := Aside0.mk (Kd.R_mono (ok' := fun k_ => some k_ ≠ (.slice Ao103 x14_3.length co103 : Value).ownBlock ∧ some k_ ≠ (.slice Ao109 t781.length co109 : Value).ownBlock ∧ some k_ ≠ (.slice Ao116 t788.length co116 : Value).ownBlock) (Kd.R_keptB (HO_768002.out) hkp (fun k_ hk_ hs_ => (hk_.2.1) hs_)) (fun k_ hk_ => ⟨hk_.1.1, hk_.1.2.1, hk_.1.2.2⟩)); have n2_ := Aside0.mk (blk_kept (nK BK759) hkp (fun hs_ => (fun e_ => (Kd.R_ne HO783.out BK759.out (by decide)) e_) hs_)); have n3_ := Aside0.mk (blk_kept (nK BK767) hkp (fun hs_ => (fun e_ => (Kd.R_ne HO783.out BK767.out (by decide)) e_) hs_)); have n4_ := Aside0.mk (Kd.R_reok rfl hy0 (fun k_ e_ => HO783.out.1 k_ e_)); have n5_ := Aside0.mk (blk_kept (nK BK785) hkp (fun hs_ => (fun e_ => (Kd.R_ne HO783.out BK785.out (by decide)) e_) hs_)); have n6_ := Aside0.mk (Kd.R_mono (ok' := fun k_ => some k_ ≠ (.slice Ao103 x14_3.length co103 : Value).ownBlock ∧ some k_ ≠ (.slice Ao25 t764.length co25 : Value).ownBlock ∧ some k_ ≠ (.slice Ao109 t781.length co109 : Value).ownBlock) (Kd.R_keptB (HO790.out) hkp (fun k_ hk_ hs_ => (hk_.2.2) hs_)) (fun k_ hk_ => ⟨hk_.1.1, hk_.1.2.1, hk_.1.2.2⟩)); have n7_ := Aside0.mk (blk_kept (nK BK792) hkp (fun hs_ => (fun e_ => (Kd.R_ne HO783.out BK792.out (by decide)) e_) hs_)); have n8_ := Aside0.mk (hb); clear HO_14; clear HO_768002; clear BK759; clear BK767; clear HO783; clear BK785; clear HO790; clear BK792; clear HB; have HO_14 := n0_; have HO_768002 := n1_; have BK759 := n2_; have BK767 := n3_; have HO783 := n4_; have BK785 := n5_; have HO790 := n6_; have BK792 := n7_; have HB := n8_; clear n0_ n1_ n2_ n3_ n4_ n5_ n6_ n7_ n8_; (try clear hb); (try clear hkp); (try clear hy0)) | (go_at_call 24; (with_reducible refine (kimberlitelaw03_same.calls k3 _ _ x14_3 _ _ l3 false _ ?side1 ?side2 ?side3 ?side4 A53.out).mono ?_); (case side1 => repeat (first | exact (Kd.R_reads' HO_14.out).2.2 | (with_reducible refine Kd.C_alloc ?_ _) | (with_reducible refine Kd.C_drewN ?_ _) | (with_reducible refine Kd.C_drew ?_))); (case side2 => exact (Kd.R_reads' HO_14.out).2.1); (case side3 => repeat (first | exact (Kd.C_below HR3.out HB.out) | (with_reducible refine Kd.C_alloc ?_ _) | (with_reducible refine Kd.C_drewN ?_ _) | (with_reducible refine Kd.C_drew ?_))); (case side4 => exact HC3.out); rintro e w' ⟨rfl, ⟨nd, rfl⟩⟩))
                     go_ret
                     exact ⟨by first | rfl | (simp [errW_none, errW_some] <;> rfl) | (simp [*, errW_none, errW_some] <;> rfl), nC HB⟩
                 · replace c52 := Bool.eq_false_iff.mpr c52
                   subst c52
                   have H1 : (some false) = some r := by rw [if_neg (show ¬ (false = true) by decide)] at H; exact H
                   clear H
                   have H := H1
                   clear H1
                   obtain rfl := Option.some.inj H
                   obtain ⟨Ao121, co121, eo121⟩ := Kd.R_slice HO_14.out
                   subst eo121
                   go_wp2_with (first | ((with_reducible refine gate_callee (f := 31) rfl ?_); refine goesL_ (some 75) rfl rfl Try.func31 (by kernel_rfl) rfl #[.int .i64 a2, .slice Ao121 x14_3.length co121] rfl (by (try simp only [List.map_toArray, List.map_cons, List.map_nil]); first | done | rfl | (simp only [List.length_drop, List.length_take]; rfl)) ?_; (with_reducible refine (curve_Of.calls k3 a2 _ _ x14_3 t779 t780 t781 t784 _ ?side1 ?side2 A49.out).mono ?_); (case side1 => repeat (first | exact (Kd.R_reads' HO_14.out).2.2 | (with_reducible refine Kd.C_alloc ?_ _) | (with_reducible refine Kd.C_drewN ?_ _) | (with_reducible refine Kd.C_drew ?_))); (case side2 => exact (Kd.R_reads' HO_14.out).2.1); rintro e w122 ⟨v782, rfl, ho0, hb⟩; refine ⟨_, rfl, ?_⟩; have n0_ := Aside0.mk (Kd.R_elder' (nR HO_14) (Kd.R_base ho0) hb); have n1_ := Aside0.mk (Kd.R_elder' (nR HO_768002) (Kd.R_base ho0) hb); have n2_ := Aside0.mk (Kd.R_lower (Kd.R_new' (Kd.R_new' ho0 (Kd.R_lt (nR HO_14))) (Kd.R_lt (nR HO_768002))) (below_size (nC HB))); have n3_ := Aside0.mk (nB BK759 hb); have n4_ := Aside0.mk (nB BK767 hb); have n5_ := Aside0.mk (below_step (nC HB) hb); clear HO_14; clear HO_768002; clear BK759; clear BK767; clear HB; have HO_14 := n0_; have HO_768002 := n1_; have HO783 := n2_; have BK759 := n3_; have BK767 := n4_; have HB := n5_; clear n0_ n1_ n2_ n3_ n4_ n5_; (try clear hb); (try clear hb2); (try clear hk); (try clear hi); (try clear ho0)) | ((with_reducible refine gate_dst (N := 16) rfl ?_); (try (refine gate_guard (by rfl) ?_; dsimp only)); refine box_event ?hg (N := 16) ?hd (cs := #[.int .i64 0, .int .i64 0, .slice none 0 0]) (t := 24) ?hr ?_; (case hd => rfl); (case hg => rfl); (case hr => first | (go_simp; done) | (go_simp; rfl)); intro gb785 hg w123 hbox hb; have n0_ := Aside0.mk (Kd.R_below (nR HO_14) hb); have n1_ := Aside0.mk (Kd.R_below (nR HO_768002) hb); have n2_ := Aside0.mk (Kd.R_below (nR HO783) hb); have n3_ := Aside0.mk (nB BK759 hb); have n4_ := Aside0.mk (nB BK767 hb); have n5_ := Aside0.mk (below_step (nC HB) hb); have n6_ := Aside0.mk (hbox); have n7_ := Aside0.mk ((by rw [hg]; exact (below_size (nC HB)) : w.heap.size ≤ gb785)); have n8_ := Aside0.mk ((by rw [hg]; exact (below_size (nC HB)) : w.heap.size ≤ gb785)); have n9_ := Aside0.mk ((by rw [hg]; exact Nat.ne_of_lt (blk_lt (g := gb759) (o := .cells #[.int .i64 a0_0, .int .i64 a0_1, .slice A0_2 l0_2.length c0_2] 24 (0, 0)) (nK BK759)) : gb759 ≠ gb785)); have n10_ := Aside0.mk ((by rw [hg]; exact Nat.ne_of_gt (blk_lt (g := gb759) (o := .cells #[.int .i64 a0_0, .int .i64 a0_1, .slice A0_2 l0_2.length c0_2] 24 (0, 0)) (nK BK759)) : gb785 ≠ gb759)); have n11_ := Aside0.mk ((by rw [hg]; exact Nat.ne_of_lt (blk_lt (g := gb767) (o := .cells #[.int .i64 t762, .int .i64 t763, .slice Ao25 t764.length co25] 24 (0, 0)) (nK BK767)) : gb767 ≠ gb785)); have n12_ := Aside0.mk ((by rw [hg]; exact Nat.ne_of_gt (blk_lt (g := gb767) (o := .cells #[.int .i64 t762, .int .i64 t763, .slice Ao25 t764.length co25] 24 (0, 0)) (nK BK767)) : gb785 ≠ gb767)); clear HO_14; clear HO_768002; clear HO783; clear BK759; clear BK767; clear HB; have HO_14 := n0_; have HO_768002 := n1_; have HO783 := n2_; have BK759 := n3_; have BK767 := n4_; have HB := n5_; have BK785 := n6_; have GW785 := n7_; have GE785 := n8_; have NB759_785 := n9_; have NB785_759 := n10_; have NB767_785 := n11_; have NB785_767 := n12_; clear n0_ n1_ n2_ n3_ n4_ n5_ n6_ n7_ n8_ n9_ n10_ n11_ n12_; clear hb hbox hg; have hnb124 := NB785_759.out; have hnc124 := NB759_785.out; have hnb125 := NB785_767.out; have hnc125 := NB767_785.out; have hcz126_0 : w123.cell? ⟨gb785, 0, none⟩ = some (.int .i64 0) := (blk_cell BK785.out 0).trans rfl; have hcz126_1 : w123.cell? ⟨gb785, 1, none⟩ = some (.int .i64 0) := (blk_cell BK785.out 1).trans rfl; have hcz126_2 : w123.cell? ⟨gb785, 2, none⟩ = some (.slice none 0 0) := (blk_cell BK785.out 2).trans rfl; have hfz126_0 := blk_frozen BK785.out 0; have hfz126_1 := blk_frozen BK785.out 1; have hfz126_2 := blk_frozen BK785.out 2; obtain ⟨Ao127, co127, eo127⟩ := Kd.R_slice HO783.out; subst eo127) | ((with_reducible refine gate_callee (f := 32) rfl ?_); refine goesL_ (some 81) rfl rfl Try.func32 (by kernel_rfl) rfl #[.int .i64 a2, .slice A3 l3.length c3] rfl (by (try simp only [List.map_toArray, List.map_cons, List.map_nil]); first | done | rfl | (simp only [List.length_drop, List.length_take]; rfl)) ?_; (with_reducible refine (kimberliteref03_Of.calls k3 a2 _ _ l3 t786 t787 t788 t791 _ ?side1 ?side2 A50.out).mono ?_); (case side1 => exact Kd.C_below HR3.out (nC HB)); (case side2 => exact HC3.out); rintro e w128 ⟨v789, rfl, ho0, hb⟩; refine ⟨_, rfl, ?_⟩; have n0_ := Aside0.mk (Kd.R_elder' (by (with_reducible repeat (first | apply Kd.R_alloc | apply Kd.R_drewN | apply Kd.R_drew)); exact (Kd.R_mono (Kd.R_far (p := ⟨gb785, 2, none⟩) (Kd.R_far (p := ⟨gb785, 1, none⟩) (Kd.R_far (p := ⟨gb785, 0, none⟩) (Kd.R_types HO_14.out BK785.out (by decide)) (fun _ hk => hk.2) (.int .i64 t779)) (fun _ hk => hk.2) (.int .i64 t780)) (fun _ hk => hk.2) (.slice Ao127 t781.length co127)) (fun _ h_ => h_.1))) (Kd.R_base ho0) hb); have n1_ := Aside0.mk (Kd.R_elder' (by (with_reducible repeat (first | apply Kd.R_alloc | apply Kd.R_drewN | apply Kd.R_drew)); exact (Kd.R_mono (Kd.R_far (p := ⟨gb785, 2, none⟩) (Kd.R_far (p := ⟨gb785, 1, none⟩) (Kd.R_far (p := ⟨gb785, 0, none⟩) (Kd.R_types HO_768002.out BK785.out (by decide)) (fun _ hk => hk.2) (.int .i64 t779)) (fun _ hk => hk.2) (.int .i64 t780)) (fun _ hk => hk.2) (.slice Ao127 t781.length co127)) (fun _ h_ => h_.1))) (Kd.R_base ho0) hb); have n2_ := Aside0.mk (Kd.R_elder' (by (with_reducible repeat (first | apply Kd.R_alloc | apply Kd.R_drewN | apply Kd.R_drew)); exact (Kd.R_mono (Kd.R_far (p := ⟨gb785, 2, none⟩) (Kd.R_far (p := ⟨gb785, 1, none⟩) (Kd.R_far (p := ⟨gb785, 0, none⟩) (Kd.R_types HO783.out BK785.out (by decide)) (fun _ hk => hk.2) (.int .i64 t779)) (fun _ hk => hk.2) (.int .i64 t780)) (fun _ hk => hk.2) (.slice Ao127 t781.length co127)) (fun _ h_ => h_.1))) (Kd.R_base ho0) hb); have n3_ := Aside0.mk (Kd.R_lower (Kd.R_new' (Kd.R_new' (Kd.R_new' ho0 (Kd.R_lt (by (with_reducible repeat (first | apply Kd.R_alloc | apply Kd.R_drewN | apply Kd.R_drew)); exact (Kd.R_mono (Kd.R_far (p := ⟨gb785, 2, none⟩) (Kd.R_far (p := ⟨gb785, 1, none⟩) (Kd.R_far (p := ⟨gb785, 0, none⟩) (Kd.R_types HO_14.out BK785.out (by decide)) (fun _ hk => hk.2) (.int .i64 t779)) (fun _ hk => hk.2) (.int .i64 t780)) (fun _ hk => hk.2) (.slice Ao127 t781.length co127)) (fun _ h_ => h_.1))))) (Kd.R_lt (by (with_reducible repeat (first | apply Kd.R_alloc | apply Kd.R_drewN | apply Kd.R_drew)); exact (Kd.R_mono (Kd.R_far (p := ⟨gb785, 2, none⟩) (Kd.R_far (p := ⟨gb785, 1, none⟩) (Kd.R_far (p := ⟨gb785, 0, none⟩) (Kd.R_types HO_768002.out BK785.out (by decide)) (fun _ hk => hk.2) (.int .i64 t779)) (fun _ hk => hk.2) (.int .i64 t780)) (fun _ hk => hk.2) (.slice Ao127 t781.length co127)) (fun _ h_ => h_.1))))) (Kd.R_lt (by (with_reducible repeat (first | apply Kd.R_alloc | apply Kd.R_drewN | apply Kd.R_drew)); exact (Kd.R_mono (Kd.R_far (p := ⟨gb785, 2, none⟩) (Kd.R_far (p := ⟨gb785, 1, none⟩) (Kd.R_far (p := ⟨gb785, 0, none⟩) (Kd.R_types HO783.out BK785.out (by decide)) (fun _ hk => hk.2) (.int .i64 t779)) (fun _ hk => hk.2) (.int .i64 t780)) (fun _ hk => hk.2) (.slice Ao127 t781.length co127)) (fun _ h_ => h_.1))))) (below_size (nC HB))); have n4_ := Aside0.mk (blk_below (g := gb759) (o := .cells #[.int .i64 a0_0, .int .i64 a0_1, .slice A0_2 l0_2.length c0_2] 24 (0, 0)) (by (with_reducible repeat (first | refine blk_drewN ?_ _ | refine blk_drew ?_ | refine blk_alloc ?_ _)); refine blk_far ?_ NB759_785.out _; (with_reducible repeat (first | refine blk_drewN ?_ _ | refine blk_drew ?_ | refine blk_alloc ?_ _)); refine blk_far ?_ NB759_785.out _; (with_reducible repeat (first | refine blk_drewN ?_ _ | refine blk_drew ?_ | refine blk_alloc ?_ _)); refine blk_far ?_ NB759_785.out _; (with_reducible repeat (first | refine blk_drewN ?_ _ | refine blk_drew ?_ | refine blk_alloc ?_ _)); exact BK759.out) hb); have n5_ := Aside0.mk (blk_below (g := gb767) (o := .cells #[.int .i64 t762, .int .i64 t763, .slice Ao25 t764.length co25] 24 (0, 0)) (by (with_reducible repeat (first | refine blk_drewN ?_ _ | refine blk_drew ?_ | refine blk_alloc ?_ _)); refine blk_far ?_ NB767_785.out _; (with_reducible repeat (first | refine blk_drewN ?_ _ | refine blk_drew ?_ | refine blk_alloc ?_ _)); refine blk_far ?_ NB767_785.out _; (with_reducible repeat (first | refine blk_drewN ?_ _ | refine blk_drew ?_ | refine blk_alloc ?_ _)); refine blk_far ?_ NB767_785.out _; (with_reducible repeat (first | refine blk_drewN ?_ _ | refine blk_drew ?_ | refine blk_alloc ?_ _)); exact BK767.out) hb); have n6_ := Aside0.mk (blk_below (g := gb785) (o := .cells #[.int .i64 t779, .int .i64 t780, .slice Ao127 t781.length co127] 24 (0, 0)) (by (with_reducible repeat (first | refine blk_drewN ?_ _ | refine blk_drew ?_ | refine blk_alloc ?_ _)); refine blk_put (cs := #[.int .i64 t779, .int .i64 t780, .slice none 0 0]) ?_ 2 _ rfl; (with_reducible repeat (first | refine blk_drewN ?_ _ | refine blk_drew ?_ | refine blk_alloc ?_ _)); refine blk_put (cs := #[.int .i64 t779, .int .i64 0, .slice none 0 0]) ?_ 1 _ rfl; (with_reducible repeat (first | refine blk_drewN ?_ _ | refine blk_drew ?_ | refine blk_alloc ?_ _)); refine blk_put (cs := #[.int .i64 0, .int .i64 0, .slice none 0 0]) ?_ 0 _ rfl; (with_reducible repeat (first | refine blk_drewN ?_ _ | refine blk_drew ?_ | refine blk_alloc ?_ _)); exact BK785.out) hb); have n7_ := Aside0.mk (below_step (nC HB) hb); clear HO_14; clear HO_768002; clear HO783; clear BK759; clear BK767; clear BK785; clear HB; have HO_14 := n0_; have HO_768002 := n1_; have HO783 := n2_; have HO790 := n3_; have BK759 := n4_; have BK767 := n5_; have BK785 := n6_; have HB := n7_; clear n0_ n1_ n2_ n3_ n4_ n5_ n6_ n7_; (try clear hb); (try clear hb2); (try clear hk); (try clear hi); (try clear ho0)) | ((with_reducible refine gate_dst (N := 17) rfl ?_); (try (refine gate_guard (by rfl) ?_; dsimp only)); refine box_event ?hg (N := 17) ?hd (cs := #[.int .i64 0, .int .i64 0, .slice none 0 0]) (t := 24) ?hr ?_; (case hd => rfl); (case hg => rfl); (case hr => first | (go_simp; done) | (go_simp; rfl)); intro gb792 hg w129 hbox hb; have n0_ := Aside0.mk (Kd.R_below (nR HO_14) hb); have n1_ := Aside0.mk (Kd.R_below (nR HO_768002) hb); have n2_ := Aside0.mk (Kd.R_below (nR HO783) hb); have n3_ := Aside0.mk (Kd.R_below (nR HO790) hb); have n4_ := Aside0.mk (nB BK759 hb); have n5_ := Aside0.mk (nB BK767 hb); have n6_ := Aside0.mk (nB BK785 hb); have n7_ := Aside0.mk (below_step (nC HB) hb); have n8_ := Aside0.mk (hbox); have n9_ := Aside0.mk ((by rw [hg]; exact (below_size (nC HB)) : w.heap.size ≤ gb792)); have n10_ := Aside0.mk ((by rw [hg]; exact (below_size (nC HB)) : w.heap.size ≤ gb792)); have n11_ := Aside0.mk ((by rw [hg]; exact Nat.ne_of_lt (blk_lt (g := gb759) (o := .cells #[.int .i64 a0_0, .int .i64 a0_1, .slice A0_2 l0_2.length c0_2] 24 (0, 0)) (nK BK759)) : gb759 ≠ gb792)); have n12_ := Aside0.mk ((by rw [hg]; exact Nat.ne_of_gt (blk_lt (g := gb759) (o := .cells #[.int .i64 a0_0, .int .i64 a0_1, .slice A0_2 l0_2.length c0_2] 24 (0, 0)) (nK BK759)) : gb792 ≠ gb759)); have n13_ := Aside0.mk ((by rw [hg]; exact Nat.ne_of_lt (blk_lt (g := gb767) (o := .cells #[.int .i64 t762, .int .i64 t763, .slice Ao25 t764.length co25] 24 (0, 0)) (nK BK767)) : gb767 ≠ gb792)); have n14_ := Aside0.mk ((by rw [hg]; exact Nat.ne_of_gt (blk_lt (g := gb767) (o := .cells #[.int .i64 t762, .int .i64 t763, .slice Ao25 t764.length co25] 24 (0, 0)) (nK BK767)) : gb792 ≠ gb767)); have n15_ := Aside0.mk ((by rw [hg]; exact Nat.ne_of_lt (blk_lt (g := gb785) (o := .cells #[.int .i64 t779, .int .i64 t780, .slice Ao127 t781.length co127] 24 (0, 0)) (nK BK785)) : gb785 ≠ gb792)); have n16_ := Aside0.mk ((by rw [hg]; exact Nat.ne_of_gt (blk_lt (g := gb785) (o := .cells #[.int .i64 t779, .int .i64 t780, .slice Ao127 t781.length co127] 24 (0, 0)) (nK BK785)) : gb792 ≠ gb785)); clear HO_14; clear HO_768002; clear HO783; clear HO790; clear BK759; clear BK767; clear BK785; clear HB; have HO_14 := n0_; have HO_768002 := n1_; have HO783 := n2_; have HO790 := n3_; have BK759 := n4_; have BK767 := n5_; have BK785 := n6_; have HB := n7_; have BK792 := n8_; have GW792 := n9_; have GE792 := n10_; have NB759_792 := n11_; have NB792_759 := n12_; have NB767_792 := n13_; have NB792_767 := n14_; have NB785_792 := n15_; have NB792_785 := n16_; clear n0_ n1_ n2_ n3_ n4_ n5_ n6_ n7_ n8_ n9_ n10_ n11_ n12_ n13_ n14_ n15_ n16_; clear hb hbox hg; have hnb130 := NB792_759.out; have hnc130 := NB759_792.out; have hnb131 := NB792_767.out; have hnc131 := NB767_792.out; have hnb132 := NB792_785.out; have hnc132 := NB785_792.out; have hcz133_0 : w129.cell? ⟨gb792, 0, none⟩ = some (.int .i64 0) := (blk_cell BK792.out 0).trans rfl; have hcz133_1 : w129.cell? ⟨gb792, 1, none⟩ = some (.int .i64 0) := (blk_cell BK792.out 1).trans rfl; have hcz133_2 : w129.cell? ⟨gb792, 2, none⟩ = some (.slice none 0 0) := (blk_cell BK792.out 2).trans rfl; have hfz133_0 := blk_frozen BK792.out 0; have hfz133_1 := blk_frozen BK792.out 1; have hfz133_2 := blk_frozen BK792.out 2; obtain ⟨Ao134, co134, eo134⟩ := Kd.R_slice HO790.out; subst eo134) | ((with_reducible refine gate_store (t := 24) (p := 17) rfl ?_); refine store_event (t := 24) (p := 17) (v := ?vo_w135) (w1 := (((w129.setCell ⟨gb792, 0, none⟩ (.int .i64 t786)).setCell ⟨gb792, 1, none⟩ (.int .i64 t787)).setCell ⟨gb792, 2, none⟩ (.slice Ao134 t788.length co134))) ?hg ?ho ?hn ?hr ?_; (case ho => rfl); (case hg => rfl); (case hn => rfl); (case hr => first | (go_simp; done) | (go_simp; rfl)); intro w135 hw; have n0_ : Aside0 (Kd.R (Kd.int .i64) 3 w135 w.heap.size (fun k_ => some k_ ≠ (.slice Ao25 t764.length co25 : Value).ownBlock ∧ some k_ ≠ (.slice Ao127 t781.length co127 : Value).ownBlock ∧ some k_ ≠ (.slice Ao134 t788.length co134 : Value).ownBlock) (.slice Ao121 x14_3.length co121) x14_3) := ⟨(by rw [hw]; exact (by (with_reducible repeat (first | apply Kd.R_alloc | apply Kd.R_drewN | apply Kd.R_drew)); exact Kd.R_mono (Kd.R_far (p := ⟨gb792, 2, none⟩) (Kd.R_far (p := ⟨gb792, 1, none⟩) (Kd.R_far (p := ⟨gb792, 0, none⟩) (Kd.R_types HO_14.out BK792.out (by decide)) (fun _ hk => hk.2) (.int .i64 t786)) (fun _ hk => hk.2) (.int .i64 t787)) (fun _ hk => hk.2) (.slice Ao134 t788.length co134)) (fun _ hk => ⟨hk.1.1.1, ⟨hk.1.1.2, hk.1.2⟩⟩)))⟩; have n1_ : Aside0 (Kd.R (Kd.int .i64) 3 w135 w.heap.size (fun k_ => some k_ ≠ (.slice Ao121 x14_3.length co121 : Value).ownBlock ∧ some k_ ≠ (.slice Ao127 t781.length co127 : Value).ownBlock ∧ some k_ ≠ (.slice Ao134 t788.length co134 : Value).ownBlock) (.slice Ao25 t764.length co25) t764) := ⟨(by rw [hw]; exact (by (with_reducible repeat (first | apply Kd.R_alloc | apply Kd.R_drewN | apply Kd.R_drew)); exact Kd.R_mono (Kd.R_far (p := ⟨gb792, 2, none⟩) (Kd.R_far (p := ⟨gb792, 1, none⟩) (Kd.R_far (p := ⟨gb792, 0, none⟩) (Kd.R_types HO_768002.out BK792.out (by decide)) (fun _ hk => hk.2) (.int .i64 t786)) (fun _ hk => hk.2) (.int .i64 t787)) (fun _ hk => hk.2) (.slice Ao134 t788.length co134)) (fun _ hk => ⟨hk.1.1.1, ⟨hk.1.1.2, hk.1.2⟩⟩)))⟩; have n2_ : Aside0 (Kd.R (Kd.int .i64) 3 w135 w.heap.size (fun k_ => some k_ ≠ (.slice Ao121 x14_3.length co121 : Value).ownBlock ∧ some k_ ≠ (.slice Ao25 t764.length co25 : Value).ownBlock ∧ some k_ ≠ (.slice Ao134 t788.length co134 : Value).ownBlock) (.slice Ao127 t781.length co127) t781) := ⟨(by rw [hw]; exact (by (with_reducible repeat (first | apply Kd.R_alloc | apply Kd.R_drewN | apply Kd.R_drew)); exact Kd.R_mono (Kd.R_far (p := ⟨gb792, 2, none⟩) (Kd.R_far (p := ⟨gb792, 1, none⟩) (Kd.R_far (p := ⟨gb792, 0, none⟩) (Kd.R_types HO783.out BK792.out (by decide)) (fun _ hk => hk.2) (.int .i64 t786)) (fun _ hk => hk.2) (.int .i64 t787)) (fun _ hk => hk.2) (.slice Ao134 t788.length co134)) (fun _ hk => ⟨hk.1.1.1.2, ⟨hk.1.1.2, hk.1.2⟩⟩)))⟩; have n3_ : Aside0 (Kd.R (Kd.int .i64) 3 w135 w.heap.size (fun k_ => some k_ ≠ (.slice Ao121 x14_3.length co121 : Value).ownBlock ∧ some k_ ≠ (.slice Ao25 t764.length co25 : Value).ownBlock ∧ some k_ ≠ (.slice Ao127 t781.length co127 : Value).ownBlock) (.slice Ao134 t788.length co134) t788) := ⟨(by rw [hw]; exact (by (with_reducible repeat (first | apply Kd.R_alloc | apply Kd.R_drewN | apply Kd.R_drew)); exact Kd.R_mono (Kd.R_far (p := ⟨gb792, 2, none⟩) (Kd.R_far (p := ⟨gb792, 1, none⟩) (Kd.R_far (p := ⟨gb792, 0, none⟩) (Kd.R_types HO790.out BK792.out (by decide)) (fun _ hk => hk.2) (.int .i64 t786)) (fun _ hk => hk.2) (.int .i64 t787)) (fun _ hk => hk.2) (.slice Ao134 t788.length co134)) (fun _ hk => ⟨hk.1.1.1.2, ⟨hk.1.1.2, hk.1.2⟩⟩)))⟩; have n4_ : Aside0 (w135.heap[gb759]? = some (.cells #[.int .i64 a0_0, .int .i64 a0_1, .slice A0_2 l0_2.length c0_2] 24 (0, 0))) := ⟨(by rw [hw]; exact (by (with_reducible repeat (first | refine blk_drewN ?_ _ | refine blk_drew ?_ | refine blk_alloc ?_ _)); refine blk_far ?_ NB759_792.out _; (with_reducible repeat (first | refine blk_drewN ?_ _ | refine blk_drew ?_ | refine blk_alloc ?_ _)); refine blk_far ?_ NB759_792.out _; (with_reducible repeat (first | refine blk_drewN ?_ _ | refine blk_drew ?_ | refine blk_alloc ?_ _)); refine blk_far ?_ NB759_792.out _; (with_reducible repeat (first | refine blk_drewN ?_ _ | refine blk_drew ?_ | refine blk_alloc ?_ _)); exact BK759.out))⟩; have n5_ : Aside0 (w135.heap[gb767]? = some (.cells #[.int .i64 t762, .int .i64 t763, .slice Ao25 t764.length co25] 24 (0, 0))) := ⟨(by rw [hw]; exact (by (with_reducible repeat (first | refine blk_drewN ?_ _ | refine blk_drew ?_ | refine blk_alloc ?_ _)); refine blk_far ?_ NB767_792.out _; (with_reducible repeat (first | refine blk_drewN ?_ _ | refine blk_drew ?_ | refine blk_alloc ?_ _)); refine blk_far ?_ NB767_792.out _; (with_reducible repeat (first | refine blk_drewN ?_ _ | refine blk_drew ?_ | refine blk_alloc ?_ _)); refine blk_far ?_ NB767_792.out _; (with_reducible repeat (first | refine blk_drewN ?_ _ | refine blk_drew ?_ | refine blk_alloc ?_ _)); exact BK767.out))⟩; have n6_ : Aside0 (w135.heap[gb785]? = some (.cells #[.int .i64 t779, .int .i64 t780, .slice Ao127 t781.length co127] 24 (0, 0))) := ⟨(by rw [hw]; exact (by (with_reducible repeat (first | refine blk_drewN ?_ _ | refine blk_drew ?_ | refine blk_alloc ?_ _)); refine blk_far ?_ NB785_792.out _; (with_reducible repeat (first | refine blk_drewN ?_ _ | refine blk_drew ?_ | refine blk_alloc ?_ _)); refine blk_far ?_ NB785_792.out _; (with_reducible repeat (first | refine blk_drewN ?_ _ | refine blk_drew ?_ | refine blk_alloc ?_ _)); refine blk_far ?_ NB785_792.out _; (with_reducible repeat (first | refine blk_drewN ?_ _ | refine blk_drew ?_ | refine blk_alloc ?_ _)); exact BK785.out))⟩; have n7_ : Aside0 (w135.heap[gb792]? = some (.cells #[.int .i64 t786, .int .i64 t787, .slice Ao134 t788.length co134] 24 (0, 0))) := ⟨(by rw [hw]; exact (by (with_reducible repeat (first | refine blk_drewN ?_ _ | refine blk_drew ?_ | refine blk_alloc ?_ _)); refine blk_put (cs := #[.int .i64 t786, .int .i64 t787, .slice none 0 0]) ?_ 2 _ rfl; (with_reducible repeat (first | refine blk_drewN ?_ _ | refine blk_drew ?_ | refine blk_alloc ?_ _)); refine blk_put (cs := #[.int .i64 t786, .int .i64 0, .slice none 0 0]) ?_ 1 _ rfl; (with_reducible repeat (first | refine blk_drewN ?_ _ | refine blk_drew ?_ | refine blk_alloc ?_ _)); refine blk_put (cs := #[.int .i64 0, .int .i64 0, .slice none 0 0]) ?_ 0 _ rfl; (with_reducible repeat (first | refine blk_drewN ?_ _ | refine blk_drew ?_ | refine blk_alloc ?_ _)); exact BK792.out))⟩; have n8_ : Aside0 (Below w.heap.size w w135) := ⟨(by rw [hw]; exact (nC HB))⟩; clear hw; clear HO_14; clear HO_768002; clear HO783; clear HO790; clear BK759; clear BK767; clear BK785; clear BK792; clear HB; have HO_14 := n0_; have HO_768002 := n1_; have HO783 := n2_; have HO790 := n3_; have BK759 := n4_; have BK767 := n5_; have BK785 := n6_; have BK792 := n7_; have HB := n8_; clear n0_ n1_ n2_ n3_ n4_ n5_ n6_ n7_ n8_; have hcz136_0 : w135.cell? ⟨gb785, 0, none⟩ = some (.int .i64 t779) := (blk_cell BK785.out 0).trans rfl; have hcz136_1 : w135.cell? ⟨gb785, 1, none⟩ = some (.int .i64 t780) := (blk_cell BK785.out 1).trans rfl; have hcz136_2 : w135.cell? ⟨gb785, 2, none⟩ = some (.slice Ao127 t781.length co127) := (blk_cell BK785.out 2).trans rfl; have hfz136_0 := blk_frozen BK785.out 0; have hfz136_1 := blk_frozen BK785.out 1; have hfz136_2 := blk_frozen BK785.out 2; have hcz137_0 : w135.cell? ⟨gb792, 0, none⟩ = some (.int .i64 t786) := (blk_cell BK792.out 0).trans rfl; have hcz137_1 : w135.cell? ⟨gb792, 1, none⟩ = some (.int .i64 t787) := (blk_cell BK792.out 1).trans rfl; have hcz137_2 : w135.cell? ⟨gb792, 2, none⟩ = some (.slice Ao134 t788.length co134) := (blk_cell BK792.out 2).trans rfl; have hfz137_0 := blk_frozen BK792.out 0; have hfz137_1 := blk_frozen BK792.out 1; have hfz137_2 := blk_frozen BK792.out 2) | ((with_reducible refine gate_callee (f := 33) rfl ?_); refine goesL_ (some 88) rfl rfl Try.func33 (by kernel_rfl) rfl #[.agg #[.int .i64 t779, .int .i64 t780, .slice Ao127 t781.length co127], .int .i64 t784, .agg #[.int .i64 t786, .int .i64 t787, .slice Ao134 t788.length co134], .int .i64 t791] rfl (by (try simp only [List.map_toArray, List.map_cons, List.map_nil]); first | done | rfl | (simp only [List.length_drop, List.length_take]; rfl)) ?_; (with_reducible refine (kimberlitelaw03_told.calls k3 t779 t780 (fun k_ => some k_ = (.slice Ao127 t781.length co127 : Value).ownBlock) (.slice Ao127 t781.length co127) t781 t784 t786 t787 _ _ t788 t791 false t794 w _ ?side1 ?side2 ?side3 ?side4 A51.out).mono ?_); (case side1 => repeat (first | (with_reducible first | exact HB.out | apply below_alloc | apply pw_below_drewN | apply below_drew1 | refine below_set ?_ GE759.out | refine below_set ?_ GE767.out | refine below_set ?_ GE785.out | refine below_set ?_ GE792.out) | exact HB.out)); (case side2 => exact Kd.R_tight rfl HO783.out); (case side3 => exact Kd.C_kept_own (HO790.out) (fun k_ hk_ hs_ => (hk_.2.2) hs_)); (case side4 => exact (Kd.R_reads' HO790.out).2.1); rintro e w138 ⟨rfl, hy0, hb, hkp⟩; refine ⟨_, rfl, ?_⟩; have n0_ := Aside0.mk (Kd.R_mono (ok' := fun k_ => some k_ ≠ (.slice Ao25 t764.length co25 : Value).ownBlock ∧ some k_ ≠ (.slice Ao127 t781.length co127 : Value).ownBlock ∧ some k_ ≠ (.slice Ao134 t788.length co134 : Value).ownBlock) (Kd.R_keptB (HO_14.out) hkp (fun k_ hk_ hs_ => (hk_.2.1) hs_)) (fun k_ hk_ => ⟨hk_.1.1, hk_.1.2.1, hk_.1.2.2⟩)); have n1_ := Aside0.mk (Kd.R_mono (ok' := fun k_ => some k_ ≠ (.slice Ao121 x14_3.length co121 : Value).ownBlock ∧ some k_ ≠ (.slice Ao127 t781.length co127 : Value).ownBlock ∧ some k_ ≠ (.slice Ao134 t788.length co134 : Value).ownBlock) (Kd.R_keptB (HO_768002.out) hkp (fun k_ hk_ hs_ => (hk_.2.1) hs_)) (fun k_ hk_ => ⟨hk_.1.1, hk_.1.2.1, hk_.1.2.2⟩)); have n2_ := Aside0.mk (blk_kept (nK BK759) hkp (fun hs_ => (fun e_ => (Kd.R_ne HO783.out BK759.out (by decide)) e_) hs_)); have n3_ := Aside0.mk (blk_kept (nK BK767) hkp (fun hs_ => (fun e_ => (Kd.R_ne HO783.out BK767.out (by decide)) e_) hs_)); have n4_ := Aside0.mk (Kd.R_reok rfl hy0 (fun k_ e_ => HO783.out.1 k_ e_)); have n5_ := Aside0.mk (blk_kept (nK BK785) hkp (fun hs_ => (fun e_ => (Kd.R_ne HO783.out BK785.out (by decide)) e_) hs_)); have n6_ := Aside0.mk (Kd.R_mono (ok' := fun k_ => some k_ ≠ (.slice Ao121 x14_3.length co121 : Value).ownBlock ∧ some k_ ≠ (.slice Ao25 t764.length co25 : Value).ownBlock ∧ some k_ ≠ (.slice Ao127 t781.length co127 : Value).ownBlock) (Kd.R_keptB (HO790.out) hkp (fun k_ hk_ hs_ => (hk_.2.2) hs_)) (fun k_ hk_ => ⟨hk_.1.1, hk_.1.2.1, hk_.1.2.2⟩)); have n7_ := Aside0.mk (blk_kept (nK BK792) hkp (fun hs_ => (fun e_ => (Kd.R_ne HO783.out BK792.out (by decide)) e_) hs_)); have n8_ := Aside0.mk (hb); clear HO_14; clear HO_768002; clear BK759; clear BK767; clear HO783; clear BK785; clear HO790; clear BK792; clear HB; have HO_14 := n0_; have HO_768002 := n1_; have BK759 := n2_; have BK767 := n3_; have HO783 := n4_; have BK785 := n5_; have HO790 := n6_; have BK792 := n7_; have HB := n8_; clear n0_ n1_ n2_ n3_ n4_ n5_ n6_ n7_ n8_; (try clear hb); (try clear hkp); (try clear hy0)))
                   go_ret
                   exact ⟨by first | rfl | (simp [errW_none, errW_some] <;> rfl) | (simp [*, errW_none, errW_some] <;> rfl), nC HB⟩
           · rw [if_neg c40] at H
             exact absurd H (by simp)
         · rw [if_neg c39] at H
           exact absurd H (by simp)
end Go.Proofs.Ytingjpcgehgiiaa.Pr
end
