/- What the proof of the law needs, trimmed and merged by wip/pack.py out of the texts YtingjpcgehgiiaaPrx40, YtingjpcgehgiiaaWalkCurveBottoms, YtingjpcgehgiiaaRowCurveBottoms. No condition. -/
import Derived.Test.YtingjpcgehgiiaaRows
import Derived.WalkKit
import Derived.ProofKit
import Derived.OpenShut
import Derived.ShutString
import Derived.ChangeOld
import Derived.Below
import Derived.SizedLaws
import Derived.Test.YtingjpcgehgiiaaKCurveBottoms0
import Derived.Test.YtingjpcgehgiiaaKCurveBottoms1
import Derived.Test.YtingjpcgehgiiaaKCurveBottoms2
import Derived.Test.YtingjpcgehgiiaaKCurveBottoms3
import Derived.Test.YtingjpcgehgiiaaKCurveBottoms4
import Derived.Test.YtingjpcgehgiiaaKCurveBottoms5
import Derived.Test.YtingjpcgehgiiaaKCurveBottoms6
import Derived.Test.YtingjpcgehgiiaaKCurveBottoms7
section
namespace Go.Proofs.Ytingjpcgehgiiaa.Pr
open Go.RowKit Go.Proofs.YtingjpcgehgiiaaW.PrintWords Go.Proofs.YtingjpcgehgiiaaW.PrintLast Go.Proofs.YtingjpcgehgiiaaW.PrintMore
attribute [local go_sem] max2_int min2_int max_two min_two max_three min_three max_four min_four   -- for this text's walks alone
set_option linter.unusedVariables false
set_option linter.unusedSimpArgs false
def kimberlitelaw03_CurveBottoms.j0 : Nat → Int → Int → Bool → Int → Int → List Int → Int → Int → List Int → Option (Bool)
 | 0, _, _, _, _, _, _, _, _, _ => none
 | k + 1, x1, x2, x55, x721000, x721001, x721002, x729000, x729001, x729002 => if x55 = true then (some false) else ((curve_Conj.f k x729000 x729001 x729002 x1 x2).bind fun bt737 => ((kimberliteref03_Conj.f k x721000 x721001 x721002 x1 x2).bind fun bt744 => ((kimberlitelaw03_told.f k bt737.1 bt737.2.1 bt737.2.2.1 bt737.2.2.2 bt744.1 bt744.2.1 bt744.2.2.1 bt744.2.2.2).bind fun bt751 => (if bt751.1 = true then ((kimberlitelaw03_alike.f k x721000 x721001 x721002 x729000 x729001 x729002).bind fun t753 => (if t753 = true then ((kimberlitelaw03_alive.f).bind fun t754 => (some t754)) else (some false))) else (some false)))))
def kimberlitelaw03_CurveBottoms.f (k : Nat) (a0_0 : Int) (a0_1 : Int) (l0_2 : List Int) (a1 : Int) (a2 : Int) : Option (Bool) := (kimberlitelaw03_few.f a0_0 a0_1 l0_2).bind fun t721 => (if t721 = true then ((kimberlitelaw03_own.f k a0_0 a0_1 l0_2).bind fun bt723 => ((curve_Bottom.f k bt723.1 bt723.2.1 bt723.2.2).bind fun bt729 => ((kimberliteref03_Bottom.f k a0_0 a0_1 l0_2).bind fun bt733 => (if bt729.1 = bt733.1 then (if bt729.2.1 = bt733.2.1 then (if bt729.2.2.1 = bt733.2.2.1 then (kimberlitelaw03_CurveBottoms.j0 k a1 a2 (bt729.2.2.2 != bt733.2.2.2) a0_0 a0_1 l0_2 bt723.1 bt723.2.1 bt723.2.2) else (kimberlitelaw03_CurveBottoms.j0 k a1 a2 true a0_0 a0_1 l0_2 bt723.1 bt723.2.1 bt723.2.2)) else (kimberlitelaw03_CurveBottoms.j0 k a1 a2 true a0_0 a0_1 l0_2 bt723.1 bt723.2.1 bt723.2.2)) else (kimberlitelaw03_CurveBottoms.j0 k a1 a2 true a0_0 a0_1 l0_2 bt723.1 bt723.2.1 bt723.2.2))))) else ((kimberlitelaw03_alive.f).bind fun t722 => (some t722)))
theorem kimberlitelaw03_CurveBottoms.mono_l : ∀ k, (∀ y0 y1 y2 y3 y4 y5 y6 y7 y8, LeO (kimberlitelaw03_CurveBottoms.j0 k y0 y1 y2 y3 y4 y5 y6 y7 y8) (kimberlitelaw03_CurveBottoms.j0 (k + 1) y0 y1 y2 y3 y4 y5 y6 y7 y8))
 | 0 => fun _ _ _ _ _ _ _ _ _ r h => by simp [kimberlitelaw03_CurveBottoms.j0] at h
 | k + 1 => by
  have ih0 := kimberlitelaw03_CurveBottoms.mono_l k
  · intro y0 y1 y2 y3 y4 y5 y6 y7 y8
    unfold kimberlitelaw03_CurveBottoms.j0
    repeat' first
    | (with_reducible exact ih0 _ _ _ _ _ _ _ _ _)
    | (with_reducible exact curve_Bottom.mono _ _ _ _)
    | (with_reducible exact curve_Conj.mono _ _ _ _ _ _)
    | (with_reducible exact kimberlitelaw03_alike.mono _ _ _ _ _ _ _)
    | (with_reducible exact kimberlitelaw03_own.mono _ _ _ _)
    | (with_reducible exact kimberlitelaw03_told.mono _ _ _ _ _ _ _ _ _)
    | (with_reducible exact kimberliteref03_Bottom.mono _ _ _ _)
    | (with_reducible exact kimberliteref03_Conj.mono _ _ _ _ _ _)
    | (with_reducible exact LeO.refl _)
    | (with_reducible exact LeO.none _)
    | (with_reducible refine LeO.ite ?_ ?_)
    | (with_reducible refine LeO.bind ?_ (fun _ => ?_))
    | exact ih0 _ _ _ _ _ _ _ _ _
    | exact curve_Bottom.mono _ _ _ _
    | exact curve_Conj.mono _ _ _ _ _ _
    | exact kimberlitelaw03_alike.mono _ _ _ _ _ _ _
    | exact kimberlitelaw03_own.mono _ _ _ _
    | exact kimberlitelaw03_told.mono _ _ _ _ _ _ _ _ _
    | exact kimberliteref03_Bottom.mono _ _ _ _
    | exact kimberliteref03_Conj.mono _ _ _ _ _ _
    | exact LeO.none _
    | refine LeO.ite ?_ ?_
    | refine LeO.bind ?_ (fun _ => ?_)
theorem kimberlitelaw03_CurveBottoms.mono : ∀ a0 a1 a2 a3 a4 k, LeO (kimberlitelaw03_CurveBottoms.f k a0 a1 a2 a3 a4) (kimberlitelaw03_CurveBottoms.f (k + 1) a0 a1 a2 a3 a4) := by
 intro a0 a1 a2 a3 a4 k
 have ih0 := kimberlitelaw03_CurveBottoms.mono_l k
 unfold kimberlitelaw03_CurveBottoms.f
 repeat' first
  | (with_reducible exact ih0 _ _ _ _ _ _ _ _ _)
  | (with_reducible exact curve_Bottom.mono _ _ _ _)
  | (with_reducible exact curve_Conj.mono _ _ _ _ _ _)
  | (with_reducible exact kimberlitelaw03_alike.mono _ _ _ _ _ _ _)
  | (with_reducible exact kimberlitelaw03_own.mono _ _ _ _)
  | (with_reducible exact kimberlitelaw03_told.mono _ _ _ _ _ _ _ _ _)
  | (with_reducible exact kimberliteref03_Bottom.mono _ _ _ _)
  | (with_reducible exact kimberliteref03_Conj.mono _ _ _ _ _ _)
  | (with_reducible exact LeO.refl _)
  | (with_reducible exact LeO.none _)
  | (with_reducible refine LeO.ite ?_ ?_)
  | (with_reducible refine LeO.bind ?_ (fun _ => ?_))
  | exact ih0 _ _ _ _ _ _ _ _ _
  | exact curve_Bottom.mono _ _ _ _
  | exact curve_Conj.mono _ _ _ _ _ _
  | exact kimberlitelaw03_alike.mono _ _ _ _ _ _ _
  | exact kimberlitelaw03_own.mono _ _ _ _
  | exact kimberlitelaw03_told.mono _ _ _ _ _ _ _ _ _
  | exact kimberliteref03_Bottom.mono _ _ _ _
  | exact kimberliteref03_Conj.mono _ _ _ _ _ _
  | exact LeO.none _
  | refine LeO.ite ?_ ?_
  | refine LeO.bind ?_ (fun _ => ?_)
set_option maxHeartbeats 8000000 in
set_option maxRecDepth 100000 in
theorem kimberlitelaw03_CurveBottoms.calls (k : Nat) (a0_0 : Int) (a0_1 : Int) (A0_2 : Option Addr) (c0_2 : Nat) (l0_2 : List Int) (a1 : Int) (a2 : Int) (r : Bool) (w : World) (hr0_2 : Kd.C (Kd.int .i64) w A0_2 l0_2.length l0_2) (hc0_2 : l0_2.length ≤ c0_2) (h : kimberlitelaw03_CurveBottoms.f k a0_0 a0_1 l0_2 a1 a2 = some r) :
 Calls Try.prog 9 #[.agg #[.int .i64 a0_0, .int .i64 a0_1, .slice A0_2 l0_2.length c0_2], .int .i64 a1, .int .i64 a2] w fun e w' => e = .returned (.bool r) ∧ Below w.heap.size w w' := by
 have hu24 := Try.underlying24
 have HR0_2 := Aside0.mk hr0_2
 have HC0_2 := Aside0.mk hc0_2
 clear hr0_2 hc0_2
 have HB := Aside0.mk (Below.refl w.heap.size w)
 have H : ((kimberlitelaw03_few.f a0_0 a0_1 l0_2).bind fun t721 => (if t721 = true then ((kimberlitelaw03_own.f k a0_0 a0_1 l0_2).bind fun bt723 => ((curve_Bottom.f k bt723.1 bt723.2.1 bt723.2.2).bind fun bt729 => ((kimberliteref03_Bottom.f k a0_0 a0_1 l0_2).bind fun bt733 => (if bt729.1 = bt733.1 then (if bt729.2.1 = bt733.2.1 then (if bt729.2.2.1 = bt733.2.2.1 then (kimberlitelaw03_CurveBottoms.j0 k a1 a2 (bt729.2.2.2 != bt733.2.2.2) a0_0 a0_1 l0_2 bt723.1 bt723.2.1 bt723.2.2) else (kimberlitelaw03_CurveBottoms.j0 k a1 a2 true a0_0 a0_1 l0_2 bt723.1 bt723.2.1 bt723.2.2)) else (kimberlitelaw03_CurveBottoms.j0 k a1 a2 true a0_0 a0_1 l0_2 bt723.1 bt723.2.1 bt723.2.2)) else (kimberlitelaw03_CurveBottoms.j0 k a1 a2 true a0_0 a0_1 l0_2 bt723.1 bt723.2.1 bt723.2.2))))) else ((kimberlitelaw03_alive.f).bind fun t722 => (some t722)))) = some r := h
 clear h
 replace H := Option.bind_eq_some_iff.mp H
 obtain ⟨t721, A40, H⟩ := H
 replace H : (if t721 = true then ((kimberlitelaw03_own.f k a0_0 a0_1 l0_2).bind fun bt723 => ((curve_Bottom.f k bt723.1 bt723.2.1 bt723.2.2).bind fun bt729 => ((kimberliteref03_Bottom.f k a0_0 a0_1 l0_2).bind fun bt733 => (if bt729.1 = bt733.1 then (if bt729.2.1 = bt733.2.1 then (if bt729.2.2.1 = bt733.2.2.1 then (kimberlitelaw03_CurveBottoms.j0 k a1 a2 (bt729.2.2.2 != bt733.2.2.2) a0_0 a0_1 l0_2 bt723.1 bt723.2.1 bt723.2.2) else (kimberlitelaw03_CurveBottoms.j0 k a1 a2 true a0_0 a0_1 l0_2 bt723.1 bt723.2.1 bt723.2.2)) else (kimberlitelaw03_CurveBottoms.j0 k a1 a2 true a0_0 a0_1 l0_2 bt723.1 bt723.2.1 bt723.2.2)) else (kimberlitelaw03_CurveBottoms.j0 k a1 a2 true a0_0 a0_1 l0_2 bt723.1 bt723.2.1 bt723.2.2))))) else ((kimberlitelaw03_alive.f).bind fun t722 => (some t722))) = some r := H
 have A4 := Aside0.mk A40
 clear A40
 by_cases c5 : t721 = true
 · subst c5
   have H1 : ((kimberlitelaw03_own.f k a0_0 a0_1 l0_2).bind fun bt723 => ((curve_Bottom.f k bt723.1 bt723.2.1 bt723.2.2).bind fun bt729 => ((kimberliteref03_Bottom.f k a0_0 a0_1 l0_2).bind fun bt733 => (if bt729.1 = bt733.1 then (if bt729.2.1 = bt733.2.1 then (if bt729.2.2.1 = bt733.2.2.1 then (kimberlitelaw03_CurveBottoms.j0 k a1 a2 (bt729.2.2.2 != bt733.2.2.2) a0_0 a0_1 l0_2 bt723.1 bt723.2.1 bt723.2.2) else (kimberlitelaw03_CurveBottoms.j0 k a1 a2 true a0_0 a0_1 l0_2 bt723.1 bt723.2.1 bt723.2.2)) else (kimberlitelaw03_CurveBottoms.j0 k a1 a2 true a0_0 a0_1 l0_2 bt723.1 bt723.2.1 bt723.2.2)) else (kimberlitelaw03_CurveBottoms.j0 k a1 a2 true a0_0 a0_1 l0_2 bt723.1 bt723.2.1 bt723.2.2))))) = some r := by rw [if_pos rfl] at H; exact H
   clear H
   have H := H1
   clear H1
   replace H := Option.bind_eq_some_iff.mp H
   obtain ⟨⟨t723, t724, t725⟩, A60, H⟩ := H
   replace H : ((curve_Bottom.f k t723 t724 t725).bind fun bt729 => ((kimberliteref03_Bottom.f k a0_0 a0_1 l0_2).bind fun bt733 => (if bt729.1 = bt733.1 then (if bt729.2.1 = bt733.2.1 then (if bt729.2.2.1 = bt733.2.2.1 then (kimberlitelaw03_CurveBottoms.j0 k a1 a2 (bt729.2.2.2 != bt733.2.2.2) a0_0 a0_1 l0_2 t723 t724 t725) else (kimberlitelaw03_CurveBottoms.j0 k a1 a2 true a0_0 a0_1 l0_2 t723 t724 t725)) else (kimberlitelaw03_CurveBottoms.j0 k a1 a2 true a0_0 a0_1 l0_2 t723 t724 t725)) else (kimberlitelaw03_CurveBottoms.j0 k a1 a2 true a0_0 a0_1 l0_2 t723 t724 t725)))) = some r := H
   have A6 := Aside0.mk A60
   clear A60
   replace H := Option.bind_eq_some_iff.mp H
   obtain ⟨⟨t729, t730, t731, t732⟩, A70, H⟩ := H
   replace H : ((kimberliteref03_Bottom.f k a0_0 a0_1 l0_2).bind fun bt733 => (if t729 = bt733.1 then (if t730 = bt733.2.1 then (if t731 = bt733.2.2.1 then (kimberlitelaw03_CurveBottoms.j0 k a1 a2 (t732 != bt733.2.2.2) a0_0 a0_1 l0_2 t723 t724 t725) else (kimberlitelaw03_CurveBottoms.j0 k a1 a2 true a0_0 a0_1 l0_2 t723 t724 t725)) else (kimberlitelaw03_CurveBottoms.j0 k a1 a2 true a0_0 a0_1 l0_2 t723 t724 t725)) else (kimberlitelaw03_CurveBottoms.j0 k a1 a2 true a0_0 a0_1 l0_2 t723 t724 t725))) = some r := H
   have A7 := Aside0.mk A70
   clear A70
   replace H := Option.bind_eq_some_iff.mp H
   obtain ⟨⟨t733, t734, t735, t736⟩, A80, H⟩ := H
   replace H : (if t729 = t733 then (if t730 = t734 then (if t731 = t735 then (kimberlitelaw03_CurveBottoms.j0 k a1 a2 (t732 != t736) a0_0 a0_1 l0_2 t723 t724 t725) else (kimberlitelaw03_CurveBottoms.j0 k a1 a2 true a0_0 a0_1 l0_2 t723 t724 t725)) else (kimberlitelaw03_CurveBottoms.j0 k a1 a2 true a0_0 a0_1 l0_2 t723 t724 t725)) else (kimberlitelaw03_CurveBottoms.j0 k a1 a2 true a0_0 a0_1 l0_2 t723 t724 t725)) = some r := H
   have A8 := Aside0.mk A80
   clear A80
   have HC9 := Aside0.mk H
   clear H
   go_enter Try.func9, Try.ntmps9
   go_upto_region 6 with (first | ((with_reducible refine gate_dst (N := 3) rfl ?_); refine box_event ?hg (N := 3) ?hd (cs := #[.int .i64 a0_0, .int .i64 a0_1, .slice A0_2 l0_2.length c0_2]) (t := 24) ?hr ?_; (case hd => rfl); (case hg => rfl); (case hr => first | (go_simp; done) | (go_simp; rfl)); intro gb720 hg w10 hbox hb; have n0_ := Aside0.mk (below_step (nC HB) hb); have n1_ := Aside0.mk (hbox); have n2_ := Aside0.mk ((by rw [hg]; exact (below_size (nC HB)) : w.heap.size ≤ gb720)); have n3_ := Aside0.mk ((by rw [hg]; exact (below_size (nC HB)) : w.heap.size ≤ gb720)); clear HB; have HB := n0_; have BK720 := n1_; have GW720 := n2_; have GE720 := n3_; clear n0_ n1_ n2_ n3_; clear hb hbox hg; have hcz11_0 : w10.cell? ⟨gb720, 0, none⟩ = some (.int .i64 a0_0) := (blk_cell BK720.out 0).trans rfl; have hcz11_1 : w10.cell? ⟨gb720, 1, none⟩ = some (.int .i64 a0_1) := (blk_cell BK720.out 1).trans rfl; have hcz11_2 : w10.cell? ⟨gb720, 2, none⟩ = some (.slice A0_2 l0_2.length c0_2) := (blk_cell BK720.out 2).trans rfl; have hfz11_0 := blk_frozen BK720.out 0; have hfz11_1 := blk_frozen BK720.out 1; have hfz11_2 := blk_frozen BK720.out 2) | ((with_reducible refine gate_callee (f := 22) rfl ?_); refine goesL_ (some 19) rfl rfl Try.func22 (by kernel_rfl) rfl #[.agg #[.int .i64 a0_0, .int .i64 a0_1, .slice A0_2 l0_2.length c0_2]] rfl (by (try simp only [List.map_toArray, List.map_cons, List.map_nil]); first | done | rfl | (simp only [List.length_drop, List.length_take]; rfl)) ?_; (with_reducible refine (kimberlitelaw03_few.calls a0_0 a0_1 _ _ l0_2 true _ ?side1 ?side2 A4.out).mono ?_); (case side1 => repeat (first | exact (Kd.C_below HR0_2.out HB.out) | (with_reducible refine Kd.C_alloc ?_ _) | (with_reducible refine Kd.C_drewN ?_ _) | (with_reducible refine Kd.C_drew ?_))); (case side2 => exact HC0_2.out); rintro e w12 ⟨rfl, hb⟩; refine ⟨_, rfl, ?_⟩; have n0_ := Aside0.mk (nB BK720 hb); have n1_ := Aside0.mk (below_step (nC HB) hb); clear BK720; clear HB; have BK720 := n0_; have HB := n1_; clear n0_ n1_; (try clear hb); (try clear hb2); (try clear hk); (try clear hi); have hcz13_0 : w12.cell? ⟨gb720, 0, none⟩ = some (.int .i64 a0_0) := (blk_cell BK720.out 0).trans rfl; have hcz13_1 : w12.cell? ⟨gb720, 1, none⟩ = some (.int .i64 a0_1) := (blk_cell BK720.out 1).trans rfl; have hcz13_2 : w12.cell? ⟨gb720, 2, none⟩ = some (.slice A0_2 l0_2.length c0_2) := (blk_cell BK720.out 2).trans rfl; have hfz13_0 := blk_frozen BK720.out 0; have hfz13_1 := blk_frozen BK720.out 1; have hfz13_2 := blk_frozen BK720.out 2) | ((with_reducible refine gate_callee (f := 27) rfl ?_); refine goesL_ (some 23) rfl rfl Try.func27 (by kernel_rfl) rfl #[.agg #[.int .i64 a0_0, .int .i64 a0_1, .slice A0_2 l0_2.length c0_2]] rfl (by (try simp only [List.map_toArray, List.map_cons, List.map_nil]); first | done | rfl | (simp only [List.length_drop, List.length_take]; rfl)) ?_; (with_reducible refine (kimberlitelaw03_own.calls k a0_0 a0_1 _ _ l0_2 t723 t724 t725 _ ?side1 ?side2 A6.out).mono ?_); (case side1 => repeat (first | exact (Kd.C_below HR0_2.out HB.out) | (with_reducible refine Kd.C_alloc ?_ _) | (with_reducible refine Kd.C_drewN ?_ _) | (with_reducible refine Kd.C_drew ?_))); (case side2 => exact HC0_2.out); rintro e w14 ⟨v726, rfl, ho0, hb⟩; refine ⟨_, rfl, ?_⟩; have n0_ := Aside0.mk (Kd.R_lower ho0 (below_size (nC HB))); have n1_ := Aside0.mk (nB BK720 hb); have n2_ := Aside0.mk (below_step (nC HB) hb); clear BK720; clear HB; have HO727 := n0_; have BK720 := n1_; have HB := n2_; clear n0_ n1_ n2_; (try clear hb); (try clear hb2); (try clear hk); (try clear hi); (try clear ho0)) | ((with_reducible refine gate_dst (N := 7) rfl ?_); refine box_event ?hg (N := 7) ?hd (cs := #[.int .i64 0, .int .i64 0, .slice none 0 0]) (t := 24) ?hr ?_; (case hd => rfl); (case hg => rfl); (case hr => first | (go_simp; done) | (go_simp; rfl)); intro gb728 hg w15 hbox hb; have n0_ := Aside0.mk (Kd.R_below (nR HO727) hb); have n1_ := Aside0.mk (nB BK720 hb); have n2_ := Aside0.mk (below_step (nC HB) hb); have n3_ := Aside0.mk (hbox); have n4_ := Aside0.mk ((by rw [hg]; exact (below_size (nC HB)) : w.heap.size ≤ gb728)); have n5_ := Aside0.mk ((by rw [hg]; exact (below_size (nC HB)) : w.heap.size ≤ gb728)); have n6_ := Aside0.mk ((by rw [hg]; exact Nat.ne_of_lt (blk_lt (g := gb720) (o := .cells #[.int .i64 a0_0, .int .i64 a0_1, .slice A0_2 l0_2.length c0_2] 24 (0, 0)) (nK BK720)) : gb720 ≠ gb728)); have n7_ := Aside0.mk ((by rw [hg]; exact Nat.ne_of_gt (blk_lt (g := gb720) (o := .cells #[.int .i64 a0_0, .int .i64 a0_1, .slice A0_2 l0_2.length c0_2] 24 (0, 0)) (nK BK720)) : gb728 ≠ gb720)); clear HO727; clear BK720; clear HB; have HO727 := n0_; have BK720 := n1_; have HB := n2_; have BK728 := n3_; have GW728 := n4_; have GE728 := n5_; have NB720_728 := n6_; have NB728_720 := n7_; clear n0_ n1_ n2_ n3_ n4_ n5_ n6_ n7_; clear hb hbox hg; have hnb16 := NB728_720.out; have hnc16 := NB720_728.out; have hcz17_0 : w15.cell? ⟨gb728, 0, none⟩ = some (.int .i64 0) := (blk_cell BK728.out 0).trans rfl; have hcz17_1 : w15.cell? ⟨gb728, 1, none⟩ = some (.int .i64 0) := (blk_cell BK728.out 1).trans rfl; have hcz17_2 : w15.cell? ⟨gb728, 2, none⟩ = some (.slice none 0 0) := (blk_cell BK728.out 2).trans rfl; have hfz17_0 := blk_frozen BK728.out 0; have hfz17_1 := blk_frozen BK728.out 1; have hfz17_2 := blk_frozen BK728.out 2; obtain ⟨Ao18, co18, eo18⟩ := Kd.R_slice HO727.out; subst eo18) | ((with_reducible refine gate_callee (f := 34) rfl ?_); refine goesL_ (some 26) rfl rfl Try.func34 (by kernel_rfl) rfl #[.agg #[.int .i64 t723, .int .i64 t724, .slice Ao18 t725.length co18]] rfl (by (try simp only [List.map_toArray, List.map_cons, List.map_nil]); first | done | rfl | (simp only [List.length_drop, List.length_take]; rfl)) ?_; (with_reducible refine (curve_Bottom.calls k t723 t724 _ _ t725 t729 t730 t731 t732 _ ?side1 ?side2 A7.out).mono ?_); (case side1 => refine (Kd.R_reads' (e := 3) (base := w.heap.size) (ok := fun k_ => True) (n := t725.length) (c := co18) ?_).2.2; exact (by (with_reducible repeat (first | apply Kd.R_alloc | apply Kd.R_drewN | apply Kd.R_drew)); exact (Kd.R_mono (Kd.R_far (p := ⟨gb728, 2, none⟩) (Kd.R_far (p := ⟨gb728, 1, none⟩) (Kd.R_far (p := ⟨gb728, 0, none⟩) (Kd.R_types HO727.out BK728.out (by decide)) (fun _ hk => hk.2) (.int .i64 t723)) (fun _ hk => hk.2) (.int .i64 t724)) (fun _ hk => hk.2) (.slice Ao18 t725.length co18)) (fun _ h_ => h_.1)))); (case side2 => exact (Kd.R_reads' HO727.out).2.1); rintro e w19 ⟨rfl, hb⟩; refine ⟨_, rfl, ?_⟩; have n0_ := Aside0.mk (Kd.R_below (by (with_reducible repeat (first | apply Kd.R_alloc | apply Kd.R_drewN | apply Kd.R_drew)); exact (Kd.R_mono (Kd.R_far (p := ⟨gb728, 2, none⟩) (Kd.R_far (p := ⟨gb728, 1, none⟩) (Kd.R_far (p := ⟨gb728, 0, none⟩) (Kd.R_types HO727.out BK728.out (by decide)) (fun _ hk => hk.2) (.int .i64 t723)) (fun _ hk => hk.2) (.int .i64 t724)) (fun _ hk => hk.2) (.slice Ao18 t725.length co18)) (fun _ h_ => h_.1))) hb); have n1_ := Aside0.mk (blk_below (g := gb720) (o := .cells #[.int .i64 a0_0, .int .i64 a0_1, .slice A0_2 l0_2.length c0_2] 24 (0, 0)) (by (with_reducible repeat (first | refine blk_drewN ?_ _ | refine blk_drew ?_ | refine blk_alloc ?_ _)); refine blk_far ?_ NB720_728.out _; (with_reducible repeat (first | refine blk_drewN ?_ _ | refine blk_drew ?_ | refine blk_alloc ?_ _)); refine blk_far ?_ NB720_728.out _; (with_reducible repeat (first | refine blk_drewN ?_ _ | refine blk_drew ?_ | refine blk_alloc ?_ _)); refine blk_far ?_ NB720_728.out _; (with_reducible repeat (first | refine blk_drewN ?_ _ | refine blk_drew ?_ | refine blk_alloc ?_ _)); exact BK720.out) hb); have n2_ := Aside0.mk (blk_below (g := gb728) (o := .cells #[.int .i64 t723, .int .i64 t724, .slice Ao18 t725.length co18] 24 (0, 0)) (by (with_reducible repeat (first | refine blk_drewN ?_ _ | refine blk_drew ?_ | refine blk_alloc ?_ _)); refine blk_put (cs := #[.int .i64 t723, .int .i64 t724, .slice none 0 0]) ?_ 2 _ rfl; (with_reducible repeat (first | refine blk_drewN ?_ _ | refine blk_drew ?_ | refine blk_alloc ?_ _)); refine blk_put (cs := #[.int .i64 t723, .int .i64 0, .slice none 0 0]) ?_ 1 _ rfl; (with_reducible repeat (first | refine blk_drewN ?_ _ | refine blk_drew ?_ | refine blk_alloc ?_ _)); refine blk_put (cs := #[.int .i64 0, .int .i64 0, .slice none 0 0]) ?_ 0 _ rfl; (with_reducible repeat (first | refine blk_drewN ?_ _ | refine blk_drew ?_ | refine blk_alloc ?_ _)); exact BK728.out) hb); have n3_ := Aside0.mk (below_step (nC HB) hb); clear HO727; clear BK720; clear BK728; clear HB; have HO727 := n0_; have BK720 := n1_; have BK728 := n2_; have HB := n3_; clear n0_ n1_ n2_ n3_; (try clear hb); (try clear hb2); (try clear hk); (try clear hi); have hcz20_0 : w19.cell? ⟨gb720, 0, none⟩ = some (.int .i64 a0_0) := (blk_cell BK720.out 0).trans rfl; have hcz20_1 : w19.cell? ⟨gb720, 1, none⟩ = some (.int .i64 a0_1) := (blk_cell BK720.out 1).trans rfl; have hcz20_2 : w19.cell? ⟨gb720, 2, none⟩ = some (.slice A0_2 l0_2.length c0_2) := (blk_cell BK720.out 2).trans rfl; have hfz20_0 := blk_frozen BK720.out 0; have hfz20_1 := blk_frozen BK720.out 1; have hfz20_2 := blk_frozen BK720.out 2) | ((with_reducible refine gate_callee (f := 35) rfl ?_); refine goesL_ (some 33) rfl rfl Try.func35 (by kernel_rfl) rfl #[.agg #[.int .i64 a0_0, .int .i64 a0_1, .slice A0_2 l0_2.length c0_2]] rfl (by (try simp only [List.map_toArray, List.map_cons, List.map_nil]); first | done | rfl | (simp only [List.length_drop, List.length_take]; rfl)) ?_; (with_reducible refine (kimberliteref03_Bottom.calls k a0_0 a0_1 _ _ l0_2 t733 t734 t735 t736 _ ?side1 ?side2 A8.out).mono ?_); (case side1 => repeat (first | exact (Kd.C_below HR0_2.out HB.out) | (with_reducible refine Kd.C_alloc ?_ _) | (with_reducible refine Kd.C_drewN ?_ _) | (with_reducible refine Kd.C_drew ?_))); (case side2 => exact HC0_2.out); rintro e w21 ⟨rfl, hb⟩; refine ⟨_, rfl, ?_⟩; have n0_ := Aside0.mk (Kd.R_below (nR HO727) hb); have n1_ := Aside0.mk (nB BK720 hb); have n2_ := Aside0.mk (nB BK728 hb); have n3_ := Aside0.mk (below_step (nC HB) hb); clear HO727; clear BK720; clear BK728; clear HB; have HO727 := n0_; have BK720 := n1_; have BK728 := n2_; have HB := n3_; clear n0_ n1_ n2_ n3_; (try clear hb); (try clear hb2); (try clear hk); (try clear hi)))
   (try simp only [Act.put, List.setIfInBounds_toArray, List.set_cons_zero, List.set_cons_succ])
   go_cut [55] (fun v55 wc => ∃ (kq : Nat) (x55_8 : Bool), v55 = .bool x55_8 ∧ Aside0 (kimberlitelaw03_CurveBottoms.j0 kq a1 a2 x55_8 a0_0 a0_1 l0_2 t723 t724 t725 = some r) ∧ Aside0 (kq ≤ k) ∧ Aside0 (Kd.R (Kd.int .i64) 3 wc w.heap.size (fun _ => True) (.slice Ao18 t725.length co18) t725) ∧ Aside0 (wc.heap[gb720]? = some (.cells #[.int .i64 a0_0, .int .i64 a0_1, (.slice A0_2 l0_2.length c0_2)] 24 (0, 0))) ∧ Aside0 (wc.heap[gb728]? = some (.cells #[.int .i64 t723, .int .i64 t724, (.slice Ao18 t725.length co18)] 24 (0, 0))) ∧ Aside0 (Below w.heap.size w wc))
   case first =>
    as_aux_lemma =>
    have H := HC9.out
    clear HC9
    by_cases c22 : t729 = t733
    · rw [if_pos c22] at H
      have c22b0 : (t729 == t733) = true := beq_iff_eq.mpr c22
      have c22b1 : (t729 != t733) = false := bne_eq_false_iff_eq.mpr c22
      clear c22
      (first | rw [c22b0] | (simp only [i64_w, i32_w]; rw [c22b0]) | skip)
      by_cases c23 : t730 = t734
      · rw [if_pos c23] at H
        have c23b0 : (t730 == t734) = true := beq_iff_eq.mpr c23
        have c23b1 : (t730 != t734) = false := bne_eq_false_iff_eq.mpr c23
        clear c23
        by_cases c24 : t731 = t735
        · rw [if_pos c24] at H
          have c24b0 : (t731 == t735) = true := beq_iff_eq.mpr c24
          have c24b1 : (t731 != t735) = false := bne_eq_false_iff_eq.mpr c24
          clear c24
          have H' := Aside0.mk H
          clear H
          go_wp2
          go_meet
          case rel => exact ⟨_, ((t732 != t736)), (by first | rfl | (simp; done) | (simp [*]; done)), H', ⟨by first | omega | exact Nat.le_refl _⟩, ⟨nR HO727⟩, ⟨nK BK720⟩, ⟨nK BK728⟩, ⟨nC HB⟩⟩
        · rw [if_neg c24] at H
          have c24b0 : (t731 == t735) = false := beq_eq_false_iff_ne.mpr c24
          have c24b1 : (t731 != t735) = true := bne_iff_ne.mpr c24
          have H' := Aside0.mk H
          clear H
          go_wp2
          go_meet
          case rel => exact ⟨_, (true), (by first | rfl | (simp; done) | (simp [*]; done)), H', ⟨by first | omega | exact Nat.le_refl _⟩, ⟨nR HO727⟩, ⟨nK BK720⟩, ⟨nK BK728⟩, ⟨nC HB⟩⟩
      · rw [if_neg c23] at H
        have c23b0 : (t730 == t734) = false := beq_eq_false_iff_ne.mpr c23
        have c23b1 : (t730 != t734) = true := bne_iff_ne.mpr c23
        have H' := Aside0.mk H
        clear H
        go_wp2
        go_meet
        case rel => exact ⟨_, (true), (by first | rfl | (simp; done) | (simp [*]; done)), H', ⟨by first | omega | exact Nat.le_refl _⟩, ⟨nR HO727⟩, ⟨nK BK720⟩, ⟨nK BK728⟩, ⟨nC HB⟩⟩
    · rw [if_neg c22] at H
      have c22b0 : (t729 == t733) = false := beq_eq_false_iff_ne.mpr c22
      have c22b1 : (t729 != t733) = true := bne_iff_ne.mpr c22
      (first | rw [c22b0] | (simp only [i64_w, i32_w]; rw [c22b0]) | skip)
      have H' := Aside0.mk H
      clear H
      go_wp2
      go_meet
      case rel => exact ⟨_, (true), (by first | rfl | (simp; done) | (simp [*]; done)), H', ⟨by first | omega | exact Nat.le_refl _⟩, ⟨nR HO727⟩, ⟨nK BK720⟩, ⟨nK BK728⟩, ⟨nC HB⟩⟩
   case rest =>
    as_aux_lemma =>
    clear HC9
    try clear c1
    try clear c2
    try clear p2
    try clear c3
    try clear c5
    try clear c9
    try clear c16
    try clear c22
    try clear c22b0
    try clear c22b1
    try clear c23
    try clear c23b0
    try clear c23b1
    try clear c24
    try clear c24b0
    try clear c24b1
    try clear hcz11_0
    try clear hcz11_1
    try clear hcz11_2
    try clear hcz13_0
    try clear hcz13_1
    try clear hcz13_2
    try clear hcz17_0
    try clear hcz17_1
    try clear hcz17_2
    try clear hcz20_0
    try clear hcz20_1
    try clear hcz20_2
    try clear hfz11_0
    try clear hfz11_1
    try clear hfz11_2
    try clear hfz13_0
    try clear hfz13_1
    try clear hfz13_2
    try clear hfz17_0
    try clear hfz17_1
    try clear hfz17_2
    try clear hfz20_0
    try clear hfz20_1
    try clear hfz20_2
    obtain ⟨kq, x55_8, rfl, HA, HJ8, HO_729002, BK720, BK728, HB⟩ := hcut
    cases kq with
    | zero => exact absurd HA.out (by simp [kimberlitelaw03_CurveBottoms.j0])
    | succ kj8 =>
     have H := HA.out
     clear HA
     simp only [kimberlitelaw03_CurveBottoms.j0] at H
     by_cases c25 : x55_8 = true
     · subst c25
       have H1 : (some false) = some r := by rw [if_pos rfl] at H; exact H
       clear H
       have H := H1
       clear H1
       obtain rfl := Option.some.inj H
       go_wp2
       go_ret
       exact ⟨by first | rfl | (simp [errW_none, errW_some] <;> rfl) | (simp [*, errW_none, errW_some] <;> rfl), nC HB⟩
     · replace c25 := Bool.eq_false_iff.mpr c25
       subst c25
       have H1 : ((curve_Conj.f kj8 t723 t724 t725 a1 a2).bind fun bt737 => ((kimberliteref03_Conj.f kj8 a0_0 a0_1 l0_2 a1 a2).bind fun bt744 => ((kimberlitelaw03_told.f kj8 bt737.1 bt737.2.1 bt737.2.2.1 bt737.2.2.2 bt744.1 bt744.2.1 bt744.2.2.1 bt744.2.2.2).bind fun bt751 => (if bt751.1 = true then ((kimberlitelaw03_alike.f kj8 a0_0 a0_1 l0_2 t723 t724 t725).bind fun t753 => (if t753 = true then ((kimberlitelaw03_alive.f).bind fun t754 => (some t754)) else (some false))) else (some false))))) = some r := by rw [if_neg (show ¬ (false = true) by decide)] at H; exact H
       clear H
       have H := H1
       clear H1
       replace H := Option.bind_eq_some_iff.mp H
       obtain ⟨⟨t737, t738, t739, t742⟩, A260, H⟩ := H
       replace H : ((kimberliteref03_Conj.f kj8 a0_0 a0_1 l0_2 a1 a2).bind fun bt744 => ((kimberlitelaw03_told.f kj8 t737 t738 t739 t742 bt744.1 bt744.2.1 bt744.2.2.1 bt744.2.2.2).bind fun bt751 => (if bt751.1 = true then ((kimberlitelaw03_alike.f kj8 a0_0 a0_1 l0_2 t723 t724 t725).bind fun t753 => (if t753 = true then ((kimberlitelaw03_alive.f).bind fun t754 => (some t754)) else (some false))) else (some false)))) = some r := H
       have A26 := Aside0.mk A260
       clear A260
       replace H := Option.bind_eq_some_iff.mp H
       obtain ⟨⟨t744, t745, t746, t749⟩, A270, H⟩ := H
       replace H : ((kimberlitelaw03_told.f kj8 t737 t738 t739 t742 t744 t745 t746 t749).bind fun bt751 => (if bt751.1 = true then ((kimberlitelaw03_alike.f kj8 a0_0 a0_1 l0_2 t723 t724 t725).bind fun t753 => (if t753 = true then ((kimberlitelaw03_alive.f).bind fun t754 => (some t754)) else (some false))) else (some false))) = some r := H
       have A27 := Aside0.mk A270
       clear A270
       replace H := Option.bind_eq_some_iff.mp H
       obtain ⟨⟨t751, t752⟩, A280, H⟩ := H
       replace H : (if t751 = true then ((kimberlitelaw03_alike.f kj8 a0_0 a0_1 l0_2 t723 t724 t725).bind fun t753 => (if t753 = true then ((kimberlitelaw03_alive.f).bind fun t754 => (some t754)) else (some false))) else (some false)) = some r := H
       have A28 := Aside0.mk A280
       clear A280
       by_cases c29 : t751 = true
       · subst c29
         have H1 : ((kimberlitelaw03_alike.f kj8 a0_0 a0_1 l0_2 t723 t724 t725).bind fun t753 => (if t753 = true then ((kimberlitelaw03_alive.f).bind fun t754 => (some t754)) else (some false))) = some r := by rw [if_pos rfl] at H; exact H
         clear H
         have H := H1
         clear H1
         replace H := Option.bind_eq_some_iff.mp H
         obtain ⟨t753, A300, H⟩ := H
         replace H : (if t753 = true then ((kimberlitelaw03_alive.f).bind fun t754 => (some t754)) else (some false)) = some r := H
         have A30 := Aside0.mk A300
         clear A300
         by_cases c31 : t753 = true
         · subst c31
           have H1 : ((kimberlitelaw03_alive.f).bind fun t754 => (some t754)) = some r := by rw [if_pos rfl] at H; exact H
           clear H
           have H := H1
           clear H1
           replace H := Option.bind_eq_some_iff.mp H
           obtain ⟨t754, A320, H⟩ := H
           replace H : (some t754) = some r := H
           have A32 := Aside0.mk A320
           clear A320
           obtain rfl := Option.some.inj H
           have hnb33 := NB728_720.out
           have hnc33 := NB720_728.out
           have hcz34_0 : wc.cell? ⟨gb728, 0, none⟩ = some (.int .i64 t723) := (blk_cell BK728.out 0).trans rfl
           have hcz34_1 : wc.cell? ⟨gb728, 1, none⟩ = some (.int .i64 t724) := (blk_cell BK728.out 1).trans rfl
           have hcz34_2 : wc.cell? ⟨gb728, 2, none⟩ = some (.slice Ao18 t725.length co18) := (blk_cell BK728.out 2).trans rfl
           have hfz34_0 := blk_frozen BK728.out 0
           have hfz34_1 := blk_frozen BK728.out 1
           have hfz34_2 := blk_frozen BK728.out 2
           go_wp2_with (first | ((with_reducible refine gate_callee (f := 36) rfl ?_); refine goesL_ (some 60) rfl rfl Try.func36 (by kernel_rfl) rfl #[.agg #[.int .i64 t723, .int .i64 t724, .slice Ao18 t725.length co18], .int .i64 a1, .int .i64 a2] rfl (by (try simp only [List.map_toArray, List.map_cons, List.map_nil]); first | done | rfl | (simp only [List.length_drop, List.length_take]; rfl)) ?_; (with_reducible refine (curve_Conj.calls kj8 t723 t724 _ _ t725 a1 a2 t737 t738 t739 t742 _ ?side1 ?side2 A26.out).mono ?_); (case side1 => repeat (first | exact (Kd.R_reads' HO_729002.out).2.2 | (with_reducible refine Kd.C_alloc ?_ _) | (with_reducible refine Kd.C_drewN ?_ _) | (with_reducible refine Kd.C_drew ?_))); (case side2 => exact (Kd.R_reads' HO_729002.out).2.1); rintro e w35 ⟨v740, rfl, ho0, hb⟩; refine ⟨_, rfl, ?_⟩; have n0_ := Aside0.mk (Kd.R_elder' (nR HO_729002) (Kd.R_base ho0) hb); have n1_ := Aside0.mk (Kd.R_lower (Kd.R_new' ho0 (Kd.R_lt (nR HO_729002))) (below_size (nC HB))); have n2_ := Aside0.mk (nB BK720 hb); have n3_ := Aside0.mk (nB BK728 hb); have n4_ := Aside0.mk (below_step (nC HB) hb); clear HO_729002; clear BK720; clear BK728; clear HB; have HO_729002 := n0_; have HO741 := n1_; have BK720 := n2_; have BK728 := n3_; have HB := n4_; clear n0_ n1_ n2_ n3_ n4_; (try clear hb); (try clear hb2); (try clear hk); (try clear hi); (try clear ho0)) | ((with_reducible refine gate_dst (N := 16) rfl ?_); refine box_event ?hg (N := 16) ?hd (cs := #[.int .i64 0, .int .i64 0, .slice none 0 0]) (t := 24) ?hr ?_; (case hd => rfl); (case hg => rfl); (case hr => first | (go_simp; done) | (go_simp; rfl)); intro gb743 hg w36 hbox hb; have n0_ := Aside0.mk (Kd.R_below (nR HO_729002) hb); have n1_ := Aside0.mk (Kd.R_below (nR HO741) hb); have n2_ := Aside0.mk (nB BK720 hb); have n3_ := Aside0.mk (nB BK728 hb); have n4_ := Aside0.mk (below_step (nC HB) hb); have n5_ := Aside0.mk (hbox); have n6_ := Aside0.mk ((by rw [hg]; exact (below_size (nC HB)) : w.heap.size ≤ gb743)); have n7_ := Aside0.mk ((by rw [hg]; exact (below_size (nC HB)) : w.heap.size ≤ gb743)); have n8_ := Aside0.mk ((by rw [hg]; exact Nat.ne_of_lt (blk_lt (g := gb720) (o := .cells #[.int .i64 a0_0, .int .i64 a0_1, .slice A0_2 l0_2.length c0_2] 24 (0, 0)) (nK BK720)) : gb720 ≠ gb743)); have n9_ := Aside0.mk ((by rw [hg]; exact Nat.ne_of_gt (blk_lt (g := gb720) (o := .cells #[.int .i64 a0_0, .int .i64 a0_1, .slice A0_2 l0_2.length c0_2] 24 (0, 0)) (nK BK720)) : gb743 ≠ gb720)); have n10_ := Aside0.mk ((by rw [hg]; exact Nat.ne_of_lt (blk_lt (g := gb728) (o := .cells #[.int .i64 t723, .int .i64 t724, .slice Ao18 t725.length co18] 24 (0, 0)) (nK BK728)) : gb728 ≠ gb743)); have n11_ := Aside0.mk ((by rw [hg]; exact Nat.ne_of_gt (blk_lt (g := gb728) (o := .cells #[.int .i64 t723, .int .i64 t724, .slice Ao18 t725.length co18] 24 (0, 0)) (nK BK728)) : gb743 ≠ gb728)); clear HO_729002; clear HO741; clear BK720; clear BK728; clear HB; have HO_729002 := n0_; have HO741 := n1_; have BK720 := n2_; have BK728 := n3_; have HB := n4_; have BK743 := n5_; have GW743 := n6_; have GE743 := n7_; have NB720_743 := n8_; have NB743_720 := n9_; have NB728_743 := n10_; have NB743_728 := n11_; clear n0_ n1_ n2_ n3_ n4_ n5_ n6_ n7_ n8_ n9_ n10_ n11_; clear hb hbox hg; have hnb37 := NB743_720.out; have hnc37 := NB720_743.out; have hnb38 := NB743_728.out; have hnc38 := NB728_743.out; have hcz39_0 : w36.cell? ⟨gb743, 0, none⟩ = some (.int .i64 0) := (blk_cell BK743.out 0).trans rfl; have hcz39_1 : w36.cell? ⟨gb743, 1, none⟩ = some (.int .i64 0) := (blk_cell BK743.out 1).trans rfl; have hcz39_2 : w36.cell? ⟨gb743, 2, none⟩ = some (.slice none 0 0) := (blk_cell BK743.out 2).trans rfl; have hfz39_0 := blk_frozen BK743.out 0; have hfz39_1 := blk_frozen BK743.out 1; have hfz39_2 := blk_frozen BK743.out 2; obtain ⟨Ao40, co40, eo40⟩ := Kd.R_slice HO741.out; subst eo40; have hcz41_0 : w36.cell? ⟨gb720, 0, none⟩ = some (.int .i64 a0_0) := (blk_cell BK720.out 0).trans rfl; have hcz41_1 : w36.cell? ⟨gb720, 1, none⟩ = some (.int .i64 a0_1) := (blk_cell BK720.out 1).trans rfl; have hcz41_2 : w36.cell? ⟨gb720, 2, none⟩ = some (.slice A0_2 l0_2.length c0_2) := (blk_cell BK720.out 2).trans rfl; have hfz41_0 := blk_frozen BK720.out 0; have hfz41_1 := blk_frozen BK720.out 1; have hfz41_2 := blk_frozen BK720.out 2) | ((with_reducible refine gate_callee (f := 37) rfl ?_); refine goesL_ (some 67) rfl rfl Try.func37 (by kernel_rfl) rfl #[.agg #[.int .i64 a0_0, .int .i64 a0_1, .slice A0_2 l0_2.length c0_2], .int .i64 a1, .int .i64 a2] rfl (by (try simp only [List.map_toArray, List.map_cons, List.map_nil]); first | done | rfl | (simp only [List.length_drop, List.length_take]; rfl)) ?_; (with_reducible refine (kimberliteref03_Conj.calls kj8 a0_0 a0_1 _ _ l0_2 a1 a2 t744 t745 t746 t749 _ ?side1 ?side2 A27.out).mono ?_); (case side1 => exact Kd.C_below HR0_2.out (nC HB)); (case side2 => exact HC0_2.out); rintro e w42 ⟨v747, rfl, ho0, hb⟩; refine ⟨_, rfl, ?_⟩; have n0_ := Aside0.mk (Kd.R_elder' (by (with_reducible repeat (first | apply Kd.R_alloc | apply Kd.R_drewN | apply Kd.R_drew)); exact (Kd.R_mono (Kd.R_far (p := ⟨gb743, 2, none⟩) (Kd.R_far (p := ⟨gb743, 1, none⟩) (Kd.R_far (p := ⟨gb743, 0, none⟩) (Kd.R_types HO_729002.out BK743.out (by decide)) (fun _ hk => hk.2) (.int .i64 t737)) (fun _ hk => hk.2) (.int .i64 t738)) (fun _ hk => hk.2) (.slice Ao40 t739.length co40)) (fun _ h_ => h_.1))) (Kd.R_base ho0) hb); have n1_ := Aside0.mk (Kd.R_elder' (by (with_reducible repeat (first | apply Kd.R_alloc | apply Kd.R_drewN | apply Kd.R_drew)); exact (Kd.R_mono (Kd.R_far (p := ⟨gb743, 2, none⟩) (Kd.R_far (p := ⟨gb743, 1, none⟩) (Kd.R_far (p := ⟨gb743, 0, none⟩) (Kd.R_types HO741.out BK743.out (by decide)) (fun _ hk => hk.2) (.int .i64 t737)) (fun _ hk => hk.2) (.int .i64 t738)) (fun _ hk => hk.2) (.slice Ao40 t739.length co40)) (fun _ h_ => h_.1))) (Kd.R_base ho0) hb); have n2_ := Aside0.mk (Kd.R_lower (Kd.R_new' (Kd.R_new' ho0 (Kd.R_lt (by (with_reducible repeat (first | apply Kd.R_alloc | apply Kd.R_drewN | apply Kd.R_drew)); exact (Kd.R_mono (Kd.R_far (p := ⟨gb743, 2, none⟩) (Kd.R_far (p := ⟨gb743, 1, none⟩) (Kd.R_far (p := ⟨gb743, 0, none⟩) (Kd.R_types HO_729002.out BK743.out (by decide)) (fun _ hk => hk.2) (.int .i64 t737)) (fun _ hk => hk.2) (.int .i64 t738)) (fun _ hk => hk.2) (.slice Ao40 t739.length co40)) (fun _ h_ => h_.1))))) (Kd.R_lt (by (with_reducible repeat (first | apply Kd.R_alloc | apply Kd.R_drewN | apply Kd.R_drew)); exact (Kd.R_mono (Kd.R_far (p := ⟨gb743, 2, none⟩) (Kd.R_far (p := ⟨gb743, 1, none⟩) (Kd.R_far (p := ⟨gb743, 0, none⟩) (Kd.R_types HO741.out BK743.out (by decide)) (fun _ hk => hk.2) (.int .i64 t737)) (fun _ hk => hk.2) (.int .i64 t738)) (fun _ hk => hk.2) (.slice Ao40 t739.length co40)) (fun _ h_ => h_.1))))) (below_size (nC HB))); have n3_ := Aside0.mk (blk_below (g := gb720) (o := .cells #[.int .i64 a0_0, .int .i64 a0_1, .slice A0_2 l0_2.length c0_2] 24 (0, 0)) (by (with_reducible repeat (first | refine blk_drewN ?_ _ | refine blk_drew ?_ | refine blk_alloc ?_ _)); refine blk_far ?_ NB720_743.out _; (with_reducible repeat (first | refine blk_drewN ?_ _ | refine blk_drew ?_ | refine blk_alloc ?_ _)); refine blk_far ?_ NB720_743.out _; (with_reducible repeat (first | refine blk_drewN ?_ _ | refine blk_drew ?_ | refine blk_alloc ?_ _)); refine blk_far ?_ NB720_743.out _; (with_reducible repeat (first | refine blk_drewN ?_ _ | refine blk_drew ?_ | refine blk_alloc ?_ _)); exact BK720.out) hb); have n4_ := Aside0.mk (blk_below (g := gb728) (o := .cells #[.int .i64 t723, .int .i64 t724, .slice Ao18 t725.length co18] 24 (0, 0)) (by (with_reducible repeat (first | refine blk_drewN ?_ _ | refine blk_drew ?_ | refine blk_alloc ?_ _)); refine blk_far ?_ NB728_743.out _; (with_reducible repeat (first | refine blk_drewN ?_ _ | refine blk_drew ?_ | refine blk_alloc ?_ _)); refine blk_far ?_ NB728_743.out _; (with_reducible repeat (first | refine blk_drewN ?_ _ | refine blk_drew ?_ | refine blk_alloc ?_ _)); refine blk_far ?_ NB728_743.out _; (with_reducible repeat (first | refine blk_drewN ?_ _ | refine blk_drew ?_ | refine blk_alloc ?_ _)); exact BK728.out) hb); have n5_ := Aside0.mk (blk_below (g := gb743) (o := .cells #[.int .i64 t737, .int .i64 t738, .slice Ao40 t739.length co40] 24 (0, 0)) (by (with_reducible repeat (first | refine blk_drewN ?_ _ | refine blk_drew ?_ | refine blk_alloc ?_ _)); refine blk_put (cs := #[.int .i64 t737, .int .i64 t738, .slice none 0 0]) ?_ 2 _ rfl; (with_reducible repeat (first | refine blk_drewN ?_ _ | refine blk_drew ?_ | refine blk_alloc ?_ _)); refine blk_put (cs := #[.int .i64 t737, .int .i64 0, .slice none 0 0]) ?_ 1 _ rfl; (with_reducible repeat (first | refine blk_drewN ?_ _ | refine blk_drew ?_ | refine blk_alloc ?_ _)); refine blk_put (cs := #[.int .i64 0, .int .i64 0, .slice none 0 0]) ?_ 0 _ rfl; (with_reducible repeat (first | refine blk_drewN ?_ _ | refine blk_drew ?_ | refine blk_alloc ?_ _)); exact BK743.out) hb); have n6_ := Aside0.mk (below_step (nC HB) hb); clear HO_729002; clear HO741; clear BK720; clear BK728; clear BK743; clear HB; have HO_729002 := n0_; have HO741 := n1_; have HO748 := n2_; have BK720 := n3_; have BK728 := n4_; have BK743 := n5_; have HB := n6_; clear n0_ n1_ n2_ n3_ n4_ n5_ n6_; (try clear hb); (try clear hb2); (try clear hk); (try clear hi); (try clear ho0)) | ((with_reducible refine gate_dst (N := 17) rfl ?_); refine box_event ?hg (N := 17) ?hd (cs := #[.int .i64 0, .int .i64 0, .slice none 0 0]) (t := 24) ?hr ?_; (case hd => rfl); (case hg => rfl); (case hr => first | (go_simp; done) | (go_simp; rfl)); intro gb750 hg w43 hbox hb; have n0_ := Aside0.mk (Kd.R_below (nR HO_729002) hb); have n1_ := Aside0.mk (Kd.R_below (nR HO741) hb); have n2_ := Aside0.mk (Kd.R_below (nR HO748) hb); have n3_ := Aside0.mk (nB BK720 hb); have n4_ := Aside0.mk (nB BK728 hb); have n5_ := Aside0.mk (nB BK743 hb); have n6_ := Aside0.mk (below_step (nC HB) hb); have n7_ := Aside0.mk (hbox); have n8_ := Aside0.mk ((by rw [hg]; exact (below_size (nC HB)) : w.heap.size ≤ gb750)); have n9_ := Aside0.mk ((by rw [hg]; exact (below_size (nC HB)) : w.heap.size ≤ gb750)); have n10_ := Aside0.mk ((by rw [hg]; exact Nat.ne_of_lt (blk_lt (g := gb720) (o := .cells #[.int .i64 a0_0, .int .i64 a0_1, .slice A0_2 l0_2.length c0_2] 24 (0, 0)) (nK BK720)) : gb720 ≠ gb750)); have n11_ := Aside0.mk ((by rw [hg]; exact Nat.ne_of_gt (blk_lt (g := gb720) (o := .cells #[.int .i64 a0_0, .int .i64 a0_1, .slice A0_2 l0_2.length c0_2] 24 (0, 0)) (nK BK720)) : gb750 ≠ gb720)); have n12_ := Aside0.mk ((by rw [hg]; exact Nat.ne_of_lt (blk_lt (g := gb728) (o := .cells #[.int .i64 t723, .int .i64 t724, .slice Ao18 t725.length co18] 24 (0, 0)) (nK BK728)) : gb728 ≠ gb750)); have n13_ := Aside0.mk ((by rw [hg]; exact Nat.ne_of_gt (blk_lt (g := gb728) (o := .cells #[.int .i64 t723, .int .i64 t724, .slice Ao18 t725.length co18] 24 (0, 0)) (nK BK728)) : gb750 ≠ gb728)); have n14_ := Aside0.mk ((by rw [hg]; exact Nat.ne_of_lt (blk_lt (g := gb743) (o := .cells #[.int .i64 t737, .int .i64 t738, .slice Ao40 t739.length co40] 24 (0, 0)) (nK BK743)) : gb743 ≠ gb750)); have n15_ := Aside0.mk ((by rw [hg]; exact Nat.ne_of_gt (blk_lt (g := gb743) (o := .cells #[.int .i64 t737, .int .i64 t738, .slice Ao40 t739.length co40] 24 (0, 0)) (nK BK743)) : gb750 ≠ gb743)); clear HO_729002; clear HO741; clear HO748; clear BK720; clear BK728; clear BK743; clear HB; have HO_729002 := n0_; have HO741 := n1_; have HO748 := n2_; have BK720 := n3_; have BK728 := n4_; have BK743 := n5_; have HB := n6_; have BK750 := n7_; have GW750 := n8_; have GE750 := n9_; have NB720_750 := n10_; have NB750_720 := n11_; have NB728_750 := n12_; have NB750_728 := n13_; have NB743_750 := n14_; have NB750_743 := n15_; clear n0_ n1_ n2_ n3_ n4_ n5_ n6_ n7_ n8_ n9_ n10_ n11_ n12_ n13_ n14_ n15_; clear hb hbox hg; have hnb44 := NB750_720.out; have hnc44 := NB720_750.out; have hnb45 := NB750_728.out; have hnc45 := NB728_750.out; have hnb46 := NB750_743.out; have hnc46 := NB743_750.out; have hcz47_0 : w43.cell? ⟨gb750, 0, none⟩ = some (.int .i64 0) := (blk_cell BK750.out 0).trans rfl; have hcz47_1 : w43.cell? ⟨gb750, 1, none⟩ = some (.int .i64 0) := (blk_cell BK750.out 1).trans rfl; have hcz47_2 : w43.cell? ⟨gb750, 2, none⟩ = some (.slice none 0 0) := (blk_cell BK750.out 2).trans rfl; have hfz47_0 := blk_frozen BK750.out 0; have hfz47_1 := blk_frozen BK750.out 1; have hfz47_2 := blk_frozen BK750.out 2; obtain ⟨Ao48, co48, eo48⟩ := Kd.R_slice HO748.out; subst eo48) | ((with_reducible refine gate_store (t := 24) (p := 17) rfl ?_); refine store_event (t := 24) (p := 17) (v := ?vo_w49) (w1 := (((w43.setCell ⟨gb750, 0, none⟩ (.int .i64 t744)).setCell ⟨gb750, 1, none⟩ (.int .i64 t745)).setCell ⟨gb750, 2, none⟩ (.slice Ao48 t746.length co48))) ?hg ?ho ?hn ?hr ?_; (case ho => rfl); (case hg => rfl); (case hn => rfl); (case hr => first | (go_simp; done) | (go_simp; rfl)); intro w49 hw; have n0_ : Aside0 (Kd.R (Kd.int .i64) 3 w49 w.heap.size (fun k_ => some k_ ≠ (.slice Ao40 t739.length co40 : Value).ownBlock ∧ some k_ ≠ (.slice Ao48 t746.length co48 : Value).ownBlock) (.slice Ao18 t725.length co18) t725) := ⟨(by rw [hw]; exact (by (with_reducible repeat (first | apply Kd.R_alloc | apply Kd.R_drewN | apply Kd.R_drew)); exact Kd.R_mono (Kd.R_far (p := ⟨gb750, 2, none⟩) (Kd.R_far (p := ⟨gb750, 1, none⟩) (Kd.R_far (p := ⟨gb750, 0, none⟩) (Kd.R_types HO_729002.out BK750.out (by decide)) (fun _ hk => hk.2) (.int .i64 t744)) (fun _ hk => hk.2) (.int .i64 t745)) (fun _ hk => hk.2) (.slice Ao48 t746.length co48)) (fun _ hk => ⟨hk.1.1.2, hk.1.2⟩)))⟩; have n1_ : Aside0 (Kd.R (Kd.int .i64) 3 w49 w.heap.size (fun k_ => some k_ ≠ (.slice Ao18 t725.length co18 : Value).ownBlock ∧ some k_ ≠ (.slice Ao48 t746.length co48 : Value).ownBlock) (.slice Ao40 t739.length co40) t739) := ⟨(by rw [hw]; exact (by (with_reducible repeat (first | apply Kd.R_alloc | apply Kd.R_drewN | apply Kd.R_drew)); exact Kd.R_mono (Kd.R_far (p := ⟨gb750, 2, none⟩) (Kd.R_far (p := ⟨gb750, 1, none⟩) (Kd.R_far (p := ⟨gb750, 0, none⟩) (Kd.R_types HO741.out BK750.out (by decide)) (fun _ hk => hk.2) (.int .i64 t744)) (fun _ hk => hk.2) (.int .i64 t745)) (fun _ hk => hk.2) (.slice Ao48 t746.length co48)) (fun _ hk => ⟨hk.1.1.2, hk.1.2⟩)))⟩; have n2_ : Aside0 (Kd.R (Kd.int .i64) 3 w49 w.heap.size (fun k_ => some k_ ≠ (.slice Ao18 t725.length co18 : Value).ownBlock ∧ some k_ ≠ (.slice Ao40 t739.length co40 : Value).ownBlock) (.slice Ao48 t746.length co48) t746) := ⟨(by rw [hw]; exact (by (with_reducible repeat (first | apply Kd.R_alloc | apply Kd.R_drewN | apply Kd.R_drew)); exact Kd.R_mono (Kd.R_far (p := ⟨gb750, 2, none⟩) (Kd.R_far (p := ⟨gb750, 1, none⟩) (Kd.R_far (p := ⟨gb750, 0, none⟩) (Kd.R_types HO748.out BK750.out (by decide)) (fun _ hk => hk.2) (.int .i64 t744)) (fun _ hk => hk.2) (.int .i64 t745)) (fun _ hk => hk.2) (.slice Ao48 t746.length co48)) (fun _ hk => ⟨hk.1.1.2, hk.1.2⟩)))⟩; have n3_ : Aside0 (w49.heap[gb720]? = some (.cells #[.int .i64 a0_0, .int .i64 a0_1, .slice A0_2 l0_2.length c0_2] 24 (0, 0))) := ⟨(by rw [hw]; exact (by (with_reducible repeat (first | refine blk_drewN ?_ _ | refine blk_drew ?_ | refine blk_alloc ?_ _)); refine blk_far ?_ NB720_750.out _; (with_reducible repeat (first | refine blk_drewN ?_ _ | refine blk_drew ?_ | refine blk_alloc ?_ _)); refine blk_far ?_ NB720_750.out _; (with_reducible repeat (first | refine blk_drewN ?_ _ | refine blk_drew ?_ | refine blk_alloc ?_ _)); refine blk_far ?_ NB720_750.out _; (with_reducible repeat (first | refine blk_drewN ?_ _ | refine blk_drew ?_ | refine blk_alloc ?_ _)); exact BK720.out))⟩; have n4_ : Aside0 (w49.heap[gb728]? = some (.cells #[.int .i64 t723, .int .i64 t724, .slice Ao18 t725.length co18] 24 (0, 0))) := ⟨(by rw [hw]; exact (by (with_reducible repeat (first | refine blk_drewN ?_ _ | refine blk_drew ?_ | refine blk_alloc ?_ _)); refine blk_far ?_ NB728_750.out _; (with_reducible repeat (first | refine blk_drewN ?_ _ | refine blk_drew ?_ | refine blk_alloc ?_ _)); refine blk_far ?_ NB728_750.out _; (with_reducible repeat (first | refine blk_drewN ?_ _ | refine blk_drew ?_ | refine blk_alloc ?_ _)); refine blk_far ?_ NB728_750.out _; (with_reducible repeat (first | refine blk_drewN ?_ _ | refine blk_drew ?_ | refine blk_alloc ?_ _)); exact BK728.out))⟩; have n5_ : Aside0 (w49.heap[gb743]? = some (.cells #[.int .i64 t737, .int .i64 t738, .slice Ao40 t739.length co40] 24 (0, 0))) := ⟨(by rw [hw]; exact (by (with_reducible repeat (first | refine blk_drewN ?_ _ | refine blk_drew ?_ | refine blk_alloc ?_ _)); refine blk_far ?_ NB743_750.out _; (with_reducible repeat (first | refine blk_drewN ?_ _ | refine blk_drew ?_ | refine blk_alloc ?_ _)); refine blk_far ?_ NB743_750.out _; (with_reducible repeat (first | refine blk_drewN ?_ _ | refine blk_drew ?_ | refine blk_alloc ?_ _)); refine blk_far ?_ NB743_750.out _; (with_reducible repeat (first | refine blk_drewN ?_ _ | refine blk_drew ?_ | refine blk_alloc ?_ _)); exact BK743.out))⟩; have n6_ : Aside0 (w49.heap[gb750]? = some (.cells #[.int .i64 t744, .int .i64 t745, .slice Ao48 t746.length co48] 24 (0, 0))) := ⟨(by rw [hw]; exact (by (with_reducible repeat (first | refine blk_drewN ?_ _ | refine blk_drew ?_ | refine blk_alloc ?_ _)); refine blk_put (cs := #[.int .i64 t744, .int .i64 t745, .slice none 0 0]) ?_ 2 _ rfl; (with_reducible repeat (first | refine blk_drewN ?_ _ | refine blk_drew ?_ | refine blk_alloc ?_ _)); refine blk_put (cs := #[.int .i64 t744, .int .i64 0, .slice none 0 0]) ?_ 1 _ rfl; (with_reducible repeat (first | refine blk_drewN ?_ _ | refine blk_drew ?_ | refine blk_alloc ?_ _)); refine blk_put (cs := #[.int .i64 0, .int .i64 0, .slice none 0 0]) ?_ 0 _ rfl; (with_reducible repeat (first | refine blk_drewN ?_ _ | refine blk_drew ?_ | refine blk_alloc ?_ _)); exact BK750.out))⟩; have n7_ : Aside0 (Below w.heap.size w w49) := ⟨(by rw [hw]; exact (nC HB))⟩; clear hw; clear HO_729002; clear HO741; clear HO748; clear BK720; clear BK728; clear BK743; clear BK750; clear HB; have HO_729002 := n0_; have HO741 := n1_; have HO748 := n2_; have BK720 := n3_; have BK728 := n4_; have BK743 := n5_; have BK750 := n6_; have HB := n7_; clear n0_ n1_ n2_ n3_ n4_ n5_ n6_ n7_; have hcz50_0 : w49.cell? ⟨gb743, 0, none⟩ = some (.int .i64 t737) := (blk_cell BK743.out 0).trans rfl; have hcz50_1 : w49.cell? ⟨gb743, 1, none⟩ = some (.int .i64 t738) := (blk_cell BK743.out 1).trans rfl; have hcz50_2 : w49.cell? ⟨gb743, 2, none⟩ = some (.slice Ao40 t739.length co40) := (blk_cell BK743.out 2).trans rfl; have hfz50_0 := blk_frozen BK743.out 0; have hfz50_1 := blk_frozen BK743.out 1; have hfz50_2 := blk_frozen BK743.out 2; have hcz51_0 : w49.cell? ⟨gb750, 0, none⟩ = some (.int .i64 t744) := (blk_cell BK750.out 0).trans rfl; have hcz51_1 : w49.cell? ⟨gb750, 1, none⟩ = some (.int .i64 t745) := (blk_cell BK750.out 1).trans rfl; have hcz51_2 : w49.cell? ⟨gb750, 2, none⟩ = some (.slice Ao48 t746.length co48) := (blk_cell BK750.out 2).trans rfl; have hfz51_0 := blk_frozen BK750.out 0; have hfz51_1 := blk_frozen BK750.out 1; have hfz51_2 := blk_frozen BK750.out 2) | ((with_reducible refine gate_callee (f := 33) rfl ?_); refine goesL_ (some 74) rfl rfl Try.func33 (by kernel_rfl) rfl #[.agg #[.int .i64 t737, .int .i64 t738, .slice Ao40 t739.length co40], .int .i64 t742, .agg #[.int .i64 t744, .int .i64 t745, .slice Ao48 t746.length co48], .int .i64 t749] rfl (by (try simp only [List.map_toArray, List.map_cons, List.map_nil]); first | done | rfl | (simp only [List.length_drop, List.length_take]; rfl)) ?_; (with_reducible refine (kimberlitelaw03_told.calls kj8 t737 t738 (fun k_ => some k_ = (.slice Ao40 t739.length co40 : Value).ownBlock) (.slice Ao40 t739.length co40) t739 t742 t744 t745 _ _ t746 t749 true t752 w _ ?side1 ?side2 ?side3 ?side4 A28.out).mono ?_); (case side1 => repeat (first | (with_reducible first | exact HB.out | apply below_alloc | apply pw_below_drewN | apply below_drew1 | refine below_set ?_ GE720.out | refine below_set ?_ GE728.out | refine below_set ?_ GE743.out | refine below_set ?_ GE750.out) | exact HB.out)); (case side2 => exact Kd.R_tight rfl HO741.out); (case side3 => exact Kd.C_kept_own (HO748.out) (fun k_ hk_ hs_ => (hk_.2) hs_)); (case side4 => exact (Kd.R_reads' HO748.out).2.1); rintro e w52 ⟨rfl, hy0, hb, hkp⟩; refine ⟨_, rfl, ?_⟩; have n0_ := Aside0.mk (Kd.R_mono (ok' := fun k_ => some k_ ≠ (.slice Ao40 t739.length co40 : Value).ownBlock ∧ some k_ ≠ (.slice Ao48 t746.length co48 : Value).ownBlock) (Kd.R_keptB (HO_729002.out) hkp (fun k_ hk_ hs_ => (hk_.1) hs_)) (fun k_ hk_ => ⟨hk_.1.1, hk_.1.2⟩)); have n1_ := Aside0.mk (blk_kept (nK BK720) hkp (fun hs_ => (fun e_ => (Kd.R_ne HO741.out BK720.out (by decide)) e_) hs_)); have n2_ := Aside0.mk (blk_kept (nK BK728) hkp (fun hs_ => (fun e_ => (Kd.R_ne HO741.out BK728.out (by decide)) e_) hs_)); have n3_ := Aside0.mk (Kd.R_reok rfl hy0 (fun k_ e_ => HO741.out.1 k_ e_)); have n4_ := Aside0.mk (blk_kept (nK BK743) hkp (fun hs_ => (fun e_ => (Kd.R_ne HO741.out BK743.out (by decide)) e_) hs_)); have n5_ := Aside0.mk (Kd.R_mono (ok' := fun k_ => some k_ ≠ (.slice Ao18 t725.length co18 : Value).ownBlock ∧ some k_ ≠ (.slice Ao40 t739.length co40 : Value).ownBlock) (Kd.R_keptB (HO748.out) hkp (fun k_ hk_ hs_ => (hk_.2) hs_)) (fun k_ hk_ => ⟨hk_.1.1, hk_.1.2⟩)); have n6_ := Aside0.mk (blk_kept (nK BK750) hkp (fun hs_ => (fun e_ => (Kd.R_ne HO741.out BK750.out (by decide)) e_) hs_)); have n7_ := Aside0.mk (hb); clear HO_729002; clear BK720; clear BK728; clear HO741; clear BK743; clear HO748; clear BK750; clear HB; have HO_729002 := n0_; have BK720 := n1_; have BK728 := n2_; have HO741 := n3_; have BK743 := n4_; have HO748 := n5_; have BK750 := n6_; have HB := n7_; clear n0_ n1_ n2_ n3_ n4_ n5_ n6_ n7_; (try clear hb); (try clear hkp); (try clear hy0); have hcz53_0 : w52.cell? ⟨gb720, 0, none⟩ = some (.int .i64 a0_0) := (blk_cell BK720.out 0).trans rfl; have hcz53_1 : w52.cell? ⟨gb720, 1, none⟩ = some (.int .i64 a0_1) := (blk_cell BK720.out 1).trans rfl; have hcz53_2 : w52.cell? ⟨gb720, 2, none⟩ = some (.slice A0_2 l0_2.length c0_2) := (blk_cell BK720.out 2).trans rfl; have hfz53_0 := blk_frozen BK720.out 0; have hfz53_1 := blk_frozen BK720.out 1; have hfz53_2 := blk_frozen BK720.out 2; have hcz54_0 : w52.cell? ⟨gb728, 0, none⟩ = some (.int .i64 t723) := (blk_cell BK728.out 0).trans rfl; have hcz54_1 : w52.cell? ⟨gb728, 1, none⟩ = some (.int .i64 t724) := (blk_cell BK728.out 1).trans rfl; have hcz54_2 : w52.cell? ⟨gb728, 2, none⟩ = some (.slice Ao18 t725.length co18) := (blk_cell BK728.out 2).trans rfl; have hfz54_0 := blk_frozen BK728.out 0; have hfz54_1 := blk_frozen BK728.out 1; have hfz54_2 := blk_frozen BK728.out 2) | (go_at_call 15; (with_reducible refine (kimberlitelaw03_alike.calls kj8 a0_0 a0_1 _ _ l0_2 t723 t724 _ _ t725 true _ ?side1 ?side2 ?side3 ?side4 A30.out).mono ?_); (case side1 => repeat (first | exact (Kd.C_below HR0_2.out HB.out) | (with_reducible refine Kd.C_alloc ?_ _) | (with_reducible refine Kd.C_drewN ?_ _) | (with_reducible refine Kd.C_drew ?_))); (case side2 => exact HC0_2.out); (case side3 => repeat (first | exact (Kd.R_reads' HO_729002.out).2.2 | (with_reducible refine Kd.C_alloc ?_ _) | (with_reducible refine Kd.C_drewN ?_ _) | (with_reducible refine Kd.C_drew ?_))); (case side4 => exact (Kd.R_reads' HO_729002.out).2.1); rintro e w55 ⟨rfl, hb⟩; have n0_ := Aside0.mk (Kd.R_below (nR HO_729002) hb); have n1_ := Aside0.mk (Kd.R_below (nR HO741) hb); have n2_ := Aside0.mk (Kd.R_below (nR HO748) hb); have n3_ := Aside0.mk (nB BK720 hb); have n4_ := Aside0.mk (nB BK728 hb); have n5_ := Aside0.mk (nB BK743 hb); have n6_ := Aside0.mk (nB BK750 hb); have n7_ := Aside0.mk (below_step (nC HB) hb); clear HO_729002; clear HO741; clear HO748; clear BK720; clear BK728; clear BK743; clear BK750; clear HB; have HO_729002 := n0_; have HO741 := n1_; have HO748 := n2_; have BK720 := n3_; have BK728 := n4_; have BK743 := n5_; have BK750 := n6_; have HB := n7_; clear n0_ n1_ n2_ n3_ n4_ n5_ n6_ n7_; (try clear hb); (try clear hb2); (try clear hk); (try clear hi)) | (go_at_call 17; (with_reducible refine (kimberlitelaw03_alive.calls  t754 _ A32.out).mono ?_); rintro e w56 ⟨rfl, hb⟩; have n0_ := Aside0.mk (Kd.R_below (nR HO_729002) hb); have n1_ := Aside0.mk (Kd.R_below (nR HO741) hb); have n2_ := Aside0.mk (Kd.R_below (nR HO748) hb); have n3_ := Aside0.mk (nB BK720 hb); have n4_ := Aside0.mk (nB BK728 hb); have n5_ := Aside0.mk (nB BK743 hb); have n6_ := Aside0.mk (nB BK750 hb); have n7_ := Aside0.mk (below_step (nC HB) hb); clear HO_729002; clear HO741; clear HO748; clear BK720; clear BK728; clear BK743; clear BK750; clear HB; have HO_729002 := n0_; have HO741 := n1_; have HO748 := n2_; have BK720 := n3_; have BK728 := n4_; have BK743 := n5_; have BK750 := n6_; have HB := n7_; clear n0_ n1_ n2_ n3_ n4_ n5_ n6_ n7_; (try clear hb); (try clear hb2); (try clear hk); (try clear hi)))
           go_ret
           exact ⟨by first | rfl | (simp [errW_none, errW_some] <;> rfl) | (simp [*, errW_none, errW_some] <;> rfl), nC HB⟩
         · replace c31 := Bool.eq_false_iff.mpr c31
           subst c31
           have H1 : (some false) = some r := by rw [if_neg (show ¬ (false = true) by decide)] at H; exact H
           clear H
           have H := H1
           clear H1
           obtain rfl := Option.some.inj H
           have hnb57 := NB728_720.out
           have hnc57 := NB720_728.out
           have hcz58_0 : wc.cell? ⟨gb728, 0, none⟩ = some (.int .i64 t723) := (blk_cell BK728.out 0).trans rfl
           have hcz58_1 : wc.cell? ⟨gb728, 1, none⟩ = some (.int .i64 t724) := (blk_cell BK728.out 1).trans rfl
           have hcz58_2 : wc.cell? ⟨gb728, 2, none⟩ = some (.slice Ao18 t725.length co18) := (blk_cell BK728.out 2).trans rfl
           have hfz58_0 := blk_frozen BK728.out 0
           have hfz58_1 := blk_frozen BK728.out 1
           have hfz58_2 := blk_frozen BK728.out 2
           go_wp2_with (first | ((with_reducible refine gate_callee (f := 36) rfl ?_); refine goesL_ (some 60) rfl rfl Try.func36 (by kernel_rfl) rfl #[.agg #[.int .i64 t723, .int .i64 t724, .slice Ao18 t725.length co18], .int .i64 a1, .int .i64 a2] rfl (by (try simp only [List.map_toArray, List.map_cons, List.map_nil]); first | done | rfl | (simp only [List.length_drop, List.length_take]; rfl)) ?_; (with_reducible refine (curve_Conj.calls kj8 t723 t724 _ _ t725 a1 a2 t737 t738 t739 t742 _ ?side1 ?side2 A26.out).mono ?_); (case side1 => repeat (first | exact (Kd.R_reads' HO_729002.out).2.2 | (with_reducible refine Kd.C_alloc ?_ _) | (with_reducible refine Kd.C_drewN ?_ _) | (with_reducible refine Kd.C_drew ?_))); (case side2 => exact (Kd.R_reads' HO_729002.out).2.1); rintro e w59 ⟨v740, rfl, ho0, hb⟩; refine ⟨_, rfl, ?_⟩; have n0_ := Aside0.mk (Kd.R_elder' (nR HO_729002) (Kd.R_base ho0) hb); have n1_ := Aside0.mk (Kd.R_lower (Kd.R_new' ho0 (Kd.R_lt (nR HO_729002))) (below_size (nC HB))); have n2_ := Aside0.mk (nB BK720 hb); have n3_ := Aside0.mk (nB BK728 hb); have n4_ := Aside0.mk (below_step (nC HB) hb); clear HO_729002; clear BK720; clear BK728; clear HB; have HO_729002 := n0_; have HO741 := n1_; have BK720 := n2_; have BK728 := n3_; have HB := n4_; clear n0_ n1_ n2_ n3_ n4_; (try clear hb); (try clear hb2); (try clear hk); (try clear hi); (try clear ho0)) | ((with_reducible refine gate_dst (N := 16) rfl ?_); refine box_event ?hg (N := 16) ?hd (cs := #[.int .i64 0, .int .i64 0, .slice none 0 0]) (t := 24) ?hr ?_; (case hd => rfl); (case hg => rfl); (case hr => first | (go_simp; done) | (go_simp; rfl)); intro gb743 hg w60 hbox hb; have n0_ := Aside0.mk (Kd.R_below (nR HO_729002) hb); have n1_ := Aside0.mk (Kd.R_below (nR HO741) hb); have n2_ := Aside0.mk (nB BK720 hb); have n3_ := Aside0.mk (nB BK728 hb); have n4_ := Aside0.mk (below_step (nC HB) hb); have n5_ := Aside0.mk (hbox); have n6_ := Aside0.mk ((by rw [hg]; exact (below_size (nC HB)) : w.heap.size ≤ gb743)); have n7_ := Aside0.mk ((by rw [hg]; exact (below_size (nC HB)) : w.heap.size ≤ gb743)); have n8_ := Aside0.mk ((by rw [hg]; exact Nat.ne_of_lt (blk_lt (g := gb720) (o := .cells #[.int .i64 a0_0, .int .i64 a0_1, .slice A0_2 l0_2.length c0_2] 24 (0, 0)) (nK BK720)) : gb720 ≠ gb743)); have n9_ := Aside0.mk ((by rw [hg]; exact Nat.ne_of_gt (blk_lt (g := gb720) (o := .cells #[.int .i64 a0_0, .int .i64 a0_1, .slice A0_2 l0_2.length c0_2] 24 (0, 0)) (nK BK720)) : gb743 ≠ gb720)); have n10_ := Aside0.mk ((by rw [hg]; exact Nat.ne_of_lt (blk_lt (g := gb728) (o := .cells #[.int .i64 t723, .int .i64 t724, .slice Ao18 t725.length co18] 24 (0, 0)) (nK BK728)) : gb728 ≠ gb743)); have n11_ := Aside0.mk ((by rw [hg]; exact Nat.ne_of_gt (blk_lt (g := gb728) (o := .cells #[.int .i64 t723, .int .i64 t724, .slice Ao18 t725.length co18] 24 (0, 0)) (nK BK728)) : gb743 ≠ gb728)); clear HO_729002; clear HO741; clear BK720; clear BK728; clear HB; have HO_729002 := n0_; have HO741 := n1_; have BK720 := n2_; have BK728 := n3_; have HB := n4_; have BK743 := n5_; have GW743 := n6_; have GE743 := n7_; have NB720_743 := n8_; have NB743_720 := n9_; have NB728_743 := n10_; have NB743_728 := n11_; clear n0_ n1_ n2_ n3_ n4_ n5_ n6_ n7_ n8_ n9_ n10_ n11_; clear hb hbox hg; have hnb61 := NB743_720.out; have hnc61 := NB720_743.out; have hnb62 := NB743_728.out; have hnc62 := NB728_743.out; have hcz63_0 : w60.cell? ⟨gb743, 0, none⟩ = some (.int .i64 0) := (blk_cell BK743.out 0).trans rfl; have hcz63_1 : w60.cell? ⟨gb743, 1, none⟩ = some (.int .i64 0) := (blk_cell BK743.out 1).trans rfl; have hcz63_2 : w60.cell? ⟨gb743, 2, none⟩ = some (.slice none 0 0) := (blk_cell BK743.out 2).trans rfl; have hfz63_0 := blk_frozen BK743.out 0; have hfz63_1 := blk_frozen BK743.out 1; have hfz63_2 := blk_frozen BK743.out 2; obtain ⟨Ao64, co64, eo64⟩ := Kd.R_slice HO741.out; subst eo64; have hcz65_0 : w60.cell? ⟨gb720, 0, none⟩ = some (.int .i64 a0_0) := (blk_cell BK720.out 0).trans rfl; have hcz65_1 : w60.cell? ⟨gb720, 1, none⟩ = some (.int .i64 a0_1) := (blk_cell BK720.out 1).trans rfl; have hcz65_2 : w60.cell? ⟨gb720, 2, none⟩ = some (.slice A0_2 l0_2.length c0_2) := (blk_cell BK720.out 2).trans rfl; have hfz65_0 := blk_frozen BK720.out 0; have hfz65_1 := blk_frozen BK720.out 1; have hfz65_2 := blk_frozen BK720.out 2) | ((with_reducible refine gate_callee (f := 37) rfl ?_); refine goesL_ (some 67) rfl rfl Try.func37 (by kernel_rfl) rfl #[.agg #[.int .i64 a0_0, .int .i64 a0_1, .slice A0_2 l0_2.length c0_2], .int .i64 a1, .int .i64 a2] rfl (by (try simp only [List.map_toArray, List.map_cons, List.map_nil]); first | done | rfl | (simp only [List.length_drop, List.length_take]; rfl)) ?_; (with_reducible refine (kimberliteref03_Conj.calls kj8 a0_0 a0_1 _ _ l0_2 a1 a2 t744 t745 t746 t749 _ ?side1 ?side2 A27.out).mono ?_); (case side1 => exact Kd.C_below HR0_2.out (nC HB)); (case side2 => exact HC0_2.out); rintro e w66 ⟨v747, rfl, ho0, hb⟩; refine ⟨_, rfl, ?_⟩; have n0_ := Aside0.mk (Kd.R_elder' (by (with_reducible repeat (first | apply Kd.R_alloc | apply Kd.R_drewN | apply Kd.R_drew)); exact (Kd.R_mono (Kd.R_far (p := ⟨gb743, 2, none⟩) (Kd.R_far (p := ⟨gb743, 1, none⟩) (Kd.R_far (p := ⟨gb743, 0, none⟩) (Kd.R_types HO_729002.out BK743.out (by decide)) (fun _ hk => hk.2) (.int .i64 t737)) (fun _ hk => hk.2) (.int .i64 t738)) (fun _ hk => hk.2) (.slice Ao64 t739.length co64)) (fun _ h_ => h_.1))) (Kd.R_base ho0) hb); have n1_ := Aside0.mk (Kd.R_elder' (by (with_reducible repeat (first | apply Kd.R_alloc | apply Kd.R_drewN | apply Kd.R_drew)); exact (Kd.R_mono (Kd.R_far (p := ⟨gb743, 2, none⟩) (Kd.R_far (p := ⟨gb743, 1, none⟩) (Kd.R_far (p := ⟨gb743, 0, none⟩) (Kd.R_types HO741.out BK743.out (by decide)) (fun _ hk => hk.2) (.int .i64 t737)) (fun _ hk => hk.2) (.int .i64 t738)) (fun _ hk => hk.2) (.slice Ao64 t739.length co64)) (fun _ h_ => h_.1))) (Kd.R_base ho0) hb); have n2_ := Aside0.mk (Kd.R_lower (Kd.R_new' (Kd.R_new' ho0 (Kd.R_lt (by (with_reducible repeat (first | apply Kd.R_alloc | apply Kd.R_drewN | apply Kd.R_drew)); exact (Kd.R_mono (Kd.R_far (p := ⟨gb743, 2, none⟩) (Kd.R_far (p := ⟨gb743, 1, none⟩) (Kd.R_far (p := ⟨gb743, 0, none⟩) (Kd.R_types HO_729002.out BK743.out (by decide)) (fun _ hk => hk.2) (.int .i64 t737)) (fun _ hk => hk.2) (.int .i64 t738)) (fun _ hk => hk.2) (.slice Ao64 t739.length co64)) (fun _ h_ => h_.1))))) (Kd.R_lt (by (with_reducible repeat (first | apply Kd.R_alloc | apply Kd.R_drewN | apply Kd.R_drew)); exact (Kd.R_mono (Kd.R_far (p := ⟨gb743, 2, none⟩) (Kd.R_far (p := ⟨gb743, 1, none⟩) (Kd.R_far (p := ⟨gb743, 0, none⟩) (Kd.R_types HO741.out BK743.out (by decide)) (fun _ hk => hk.2) (.int .i64 t737)) (fun _ hk => hk.2) (.int .i64 t738)) (fun _ hk => hk.2) (.slice Ao64 t739.length co64)) (fun _ h_ => h_.1))))) (below_size (nC HB))); have n3_ := Aside0.mk (blk_below (g := gb720) (o := .cells #[.int .i64 a0_0, .int .i64 a0_1, .slice A0_2 l0_2.length c0_2] 24 (0, 0)) (by (with_reducible repeat (first | refine blk_drewN ?_ _ | refine blk_drew ?_ | refine blk_alloc ?_ _)); refine blk_far ?_ NB720_743.out _; (with_reducible repeat (first | refine blk_drewN ?_ _ | refine blk_drew ?_ | refine blk_alloc ?_ _)); refine blk_far ?_ NB720_743.out _; (with_reducible repeat (first | refine blk_drewN ?_ _ | refine blk_drew ?_ | refine blk_alloc ?_ _)); refine blk_far ?_ NB720_743.out _; (with_reducible repeat (first | refine blk_drewN ?_ _ | refine blk_drew ?_ | refine blk_alloc ?_ _)); exact BK720.out) hb); have n4_ := Aside0.mk (blk_below (g := gb728) (o := .cells #[.int .i64 t723, .int .i64 t724, .slice Ao18 t725.length co18] 24 (0, 0)) (by (with_reducible repeat (first | refine blk_drewN ?_ _ | refine blk_drew ?_ | refine blk_alloc ?_ _)); refine blk_far ?_ NB728_743.out _; (with_reducible repeat (first | refine blk_drewN ?_ _ | refine blk_drew ?_ | refine blk_alloc ?_ _)); refine blk_far ?_ NB728_743.out _; (with_reducible repeat (first | refine blk_drewN ?_ _ | refine blk_drew ?_ | refine blk_alloc ?_ _)); refine blk_far ?_ NB728_743.out _; (with_reducible repeat (first | refine blk_drewN ?_ _ | refine blk_drew ?_ | refine blk_alloc ?_ _)); exact BK728.out) hb); have n5_ := Aside0.mk (blk_below (g := gb743) (o := .cells #[.int .i64 t737, .int .i64 t738, .slice Ao64 t739.length co64] 24 (0, 0)) (by (with_reducible repeat (first | refine blk_drewN ?_ _ | refine blk_drew ?_ | refine blk_alloc ?_ _)); refine blk_put (cs := #[.int .i64 t737, .int .i64 t738, .slice none 0 0]) ?_ 2 _ rfl; (with_reducible repeat (first | refine blk_drewN ?_ _ | refine blk_drew ?_ | refine blk_alloc ?_ _)); refine blk_put (cs := #[.int .i64 t737, .int .i64 0, .slice none 0 0]) ?_ 1 _ rfl; (with_reducible repeat (first | refine blk_drewN ?_ _ | refine blk_drew ?_ | refine blk_alloc ?_ _)); refine blk_put (cs := #[.int .i64 0, .int .i64 0, .slice none 0 0]) ?_ 0 _ rfl; (with_reducible repeat (first | refine blk_drewN ?_ _ | refine blk_drew ?_ | refine blk_alloc ?_ _)); exact BK743.out) hb); have n6_ := Aside0.mk (below_step (nC HB) hb); clear HO_729002; clear HO741; clear BK720; clear BK728; clear BK743; clear HB; have HO_729002 := n0_; have HO741 := n1_; have HO748 := n2_; have BK720 := n3_; have BK728 := n4_; have BK743 := n5_; have HB := n6_; clear n0_ n1_ n2_ n3_ n4_ n5_ n6_; (try clear hb); (try clear hb2); (try clear hk); (try clear hi); (try clear ho0)) | ((with_reducible refine gate_dst (N := 17) rfl ?_); refine box_event ?hg (N := 17) ?hd (cs := #[.int .i64 0, .int .i64 0, .slice none 0 0]) (t := 24) ?hr ?_; (case hd => rfl); (case hg => rfl); (case hr => first | (go_simp; done) | (go_simp; rfl)); intro gb750 hg w67 hbox hb; have n0_ := Aside0.mk (Kd.R_below (nR HO_729002) hb); have n1_ := Aside0.mk (Kd.R_below (nR HO741) hb); have n2_ := Aside0.mk (Kd.R_below (nR HO748) hb); have n3_ := Aside0.mk (nB BK720 hb); have n4_ := Aside0.mk (nB BK728 hb); have n5_ := Aside0.mk (nB BK743 hb); have n6_ := Aside0.mk (below_step (nC HB) hb); have n7_ := Aside0.mk (hbox); have n8_ := Aside0.mk ((by rw [hg]; exact (below_size (nC HB)) : w.heap.size ≤ gb750)); have n9_ := Aside0.mk ((by rw [hg]; exact (below_size (nC HB)) : w.heap.size ≤ gb750)); have n10_ := Aside0.mk ((by rw [hg]; exact Nat.ne_of_lt (blk_lt (g := gb720) (o := .cells #[.int .i64 a0_0, .int .i64 a0_1, .slice A0_2 l0_2.length c0_2] 24 (0, 0)) (nK BK720)) : gb720 ≠ gb750)); have n11_ := Aside0.mk ((by rw [hg]; exact Nat.ne_of_gt (blk_lt (g := gb720) (o := .cells #[.int .i64 a0_0, .int .i64 a0_1, .slice A0_2 l0_2.length c0_2] 24 (0, 0)) (nK BK720)) : gb750 ≠ gb720)); have n12_ := Aside0.mk ((by rw [hg]; exact Nat.ne_of_lt (blk_lt (g := gb728) (o := .cells #[.int .i64 t723, .int .i64 t724, .slice Ao18 t725.length co18] 24 (0, 0)) (nK BK728)) : gb728 ≠ gb750)); have n13_ := Aside0.mk ((by rw [hg]; exact Nat.ne_of_gt (blk_lt (g := gb728) (o := .cells #[.int .i64 t723, .int .i64 t724, .slice Ao18 t725.length co18] 24 (0, 0)) (nK BK728)) : gb750 ≠ gb728)); have n14_ := Aside0.mk ((by rw [hg]; exact Nat.ne_of_lt (blk_lt (g := gb743) (o := .cells #[.int .i64 t737, .int .i64 t738, .slice Ao64 t739.length co64] 24 (0, 0)) (nK BK743)) : gb743 ≠ gb750)); have n15_ := Aside0.mk ((by rw [hg]; exact Nat.ne_of_gt (blk_lt (g := gb743) (o := .cells #[.int .i64 t737, .int .i64 t738, .slice Ao64 t739.length co64] 24 (0, 0)) (nK BK743)) : gb750 ≠ gb743)); clear HO_729002; clear HO741; clear HO748; clear BK720; clear BK728; clear BK743; clear HB; have HO_729002 := n0_; have HO741 := n1_; have HO748 := n2_; have BK720 := n3_; have BK728 := n4_; have BK743 := n5_; have HB := n6_; have BK750 := n7_; have GW750 := n8_; have GE750 := n9_; have NB720_750 := n10_; have NB750_720 := n11_; have NB728_750 := n12_; have NB750_728 := n13_; have NB743_750 := n14_; have NB750_743 := n15_; clear n0_ n1_ n2_ n3_ n4_ n5_ n6_ n7_ n8_ n9_ n10_ n11_ n12_ n13_ n14_ n15_; clear hb hbox hg; have hnb68 := NB750_720.out; have hnc68 := NB720_750.out; have hnb69 := NB750_728.out; have hnc69 := NB728_750.out; have hnb70 := NB750_743.out; have hnc70 := NB743_750.out; have hcz71_0 : w67.cell? ⟨gb750, 0, none⟩ = some (.int .i64 0) := (blk_cell BK750.out 0).trans rfl; have hcz71_1 : w67.cell? ⟨gb750, 1, none⟩ = some (.int .i64 0) := (blk_cell BK750.out 1).trans rfl; have hcz71_2 : w67.cell? ⟨gb750, 2, none⟩ = some (.slice none 0 0) := (blk_cell BK750.out 2).trans rfl; have hfz71_0 := blk_frozen BK750.out 0; have hfz71_1 := blk_frozen BK750.out 1; have hfz71_2 := blk_frozen BK750.out 2; obtain ⟨Ao72, co72, eo72⟩ := Kd.R_slice HO748.out; subst eo72) | ((with_reducible refine gate_store (t := 24) (p := 17) rfl ?_); refine store_event (t := 24) (p := 17) (v := ?vo_w73) (w1 := (((w67.setCell ⟨gb750, 0, none⟩ (.int .i64 t744)).setCell ⟨gb750, 1, none⟩ (.int .i64 t745)).setCell ⟨gb750, 2, none⟩ (.slice Ao72 t746.length co72))) ?hg ?ho ?hn ?hr ?_; (case ho => rfl); (case hg => rfl); (case hn => rfl); (case hr => first | (go_simp; done) | (go_simp; rfl)); intro w73 hw; have n0_ : Aside0 (Kd.R (Kd.int .i64) 3 w73 w.heap.size (fun k_ => some k_ ≠ (.slice Ao64 t739.length co64 : Value).ownBlock ∧ some k_ ≠ (.slice Ao72 t746.length co72 : Value).ownBlock) (.slice Ao18 t725.length co18) t725) := ⟨(by rw [hw]; exact (by (with_reducible repeat (first | apply Kd.R_alloc | apply Kd.R_drewN | apply Kd.R_drew)); exact Kd.R_mono (Kd.R_far (p := ⟨gb750, 2, none⟩) (Kd.R_far (p := ⟨gb750, 1, none⟩) (Kd.R_far (p := ⟨gb750, 0, none⟩) (Kd.R_types HO_729002.out BK750.out (by decide)) (fun _ hk => hk.2) (.int .i64 t744)) (fun _ hk => hk.2) (.int .i64 t745)) (fun _ hk => hk.2) (.slice Ao72 t746.length co72)) (fun _ hk => ⟨hk.1.1.2, hk.1.2⟩)))⟩; have n1_ : Aside0 (Kd.R (Kd.int .i64) 3 w73 w.heap.size (fun k_ => some k_ ≠ (.slice Ao18 t725.length co18 : Value).ownBlock ∧ some k_ ≠ (.slice Ao72 t746.length co72 : Value).ownBlock) (.slice Ao64 t739.length co64) t739) := ⟨(by rw [hw]; exact (by (with_reducible repeat (first | apply Kd.R_alloc | apply Kd.R_drewN | apply Kd.R_drew)); exact Kd.R_mono (Kd.R_far (p := ⟨gb750, 2, none⟩) (Kd.R_far (p := ⟨gb750, 1, none⟩) (Kd.R_far (p := ⟨gb750, 0, none⟩) (Kd.R_types HO741.out BK750.out (by decide)) (fun _ hk => hk.2) (.int .i64 t744)) (fun _ hk => hk.2) (.int .i64 t745)) (fun _ hk => hk.2) (.slice Ao72 t746.length co72)) (fun _ hk => ⟨hk.1.1.2, hk.1.2⟩)))⟩; have n2_ : Aside0 (Kd.R (Kd.int .i64) 3 w73 w.heap.size (fun k_ => some k_ ≠ (.slice Ao18 t725.length co18 : Value).ownBlock ∧ some k_ ≠ (.slice Ao64 t739.length co64 : Value).ownBlock) (.slice Ao72 t746.length co72) t746) := ⟨(by rw [hw]; exact (by (with_reducible repeat (first | apply Kd.R_alloc | apply Kd.R_drewN | apply Kd.R_drew)); exact Kd.R_mono (Kd.R_far (p := ⟨gb750, 2, none⟩) (Kd.R_far (p := ⟨gb750, 1, none⟩) (Kd.R_far (p := ⟨gb750, 0, none⟩) (Kd.R_types HO748.out BK750.out (by decide)) (fun _ hk => hk.2) (.int .i64 t744)) (fun _ hk => hk.2) (.int .i64 t745)) (fun _ hk => hk.2) (.slice Ao72 t746.length co72)) (fun _ hk => ⟨hk.1.1.2, hk.1.2⟩)))⟩; have n3_ : Aside0 (w73.heap[gb720]? = some (.cells #[.int .i64 a0_0, .int .i64 a0_1, .slice A0_2 l0_2.length c0_2] 24 (0, 0))) := ⟨(by rw [hw]; exact (by (with_reducible repeat (first | refine blk_drewN ?_ _ | refine blk_drew ?_ | refine blk_alloc ?_ _)); refine blk_far ?_ NB720_750.out _; (with_reducible repeat (first | refine blk_drewN ?_ _ | refine blk_drew ?_ | refine blk_alloc ?_ _)); refine blk_far ?_ NB720_750.out _; (with_reducible repeat (first | refine blk_drewN ?_ _ | refine blk_drew ?_ | refine blk_alloc ?_ _)); refine blk_far ?_ NB720_750.out _; (with_reducible repeat (first | refine blk_drewN ?_ _ | refine blk_drew ?_ | refine blk_alloc ?_ _)); exact BK720.out))⟩; have n4_ : Aside0 (w73.heap[gb728]? = some (.cells #[.int .i64 t723, .int .i64 t724, .slice Ao18 t725.length co18] 24 (0, 0))) := ⟨(by rw [hw]; exact (by (with_reducible repeat (first | refine blk_drewN ?_ _ | refine blk_drew ?_ | refine blk_alloc ?_ _)); refine blk_far ?_ NB728_750.out _; (with_reducible repeat (first | refine blk_drewN ?_ _ | refine blk_drew ?_ | refine blk_alloc ?_ _)); refine blk_far ?_ NB728_750.out _; (with_reducible repeat (first | refine blk_drewN ?_ _ | refine blk_drew ?_ | refine blk_alloc ?_ _)); refine blk_far ?_ NB728_750.out _; (with_reducible repeat (first | refine blk_drewN ?_ _ | refine blk_drew ?_ | refine blk_alloc ?_ _)); exact BK728.out))⟩; have n5_ : Aside0 (w73.heap[gb743]? = some (.cells #[.int .i64 t737, .int .i64 t738, .slice Ao64 t739.length co64] 24 (0, 0))) := ⟨(by rw [hw]; exact (by (with_reducible repeat (first | refine blk_drewN ?_ _ | refine blk_drew ?_ | refine blk_alloc ?_ _)); refine blk_far ?_ NB743_750.out _; (with_reducible repeat (first | refine blk_drewN ?_ _ | refine blk_drew ?_ | refine blk_alloc ?_ _)); refine blk_far ?_ NB743_750.out _; (with_reducible repeat (first | refine blk_drewN ?_ _ | refine blk_drew ?_ | refine blk_alloc ?_ _)); refine blk_far ?_ NB743_750.out _; (with_reducible repeat (first | refine blk_drewN ?_ _ | refine blk_drew ?_ | refine blk_alloc ?_ _)); exact BK743.out))⟩; have n6_ : Aside0 (w73.heap[gb750]? = some (.cells #[.int .i64 t744, .int .i64 t745, .slice Ao72 t746.length co72] 24 (0, 0))) := ⟨(by rw [hw]; exact (by (with_reducible repeat (first | refine blk_drewN ?_ _ | refine blk_drew ?_ | refine blk_alloc ?_ _)); refine blk_put (cs := #[.int .i64 t744, .int .i64 t745, .slice none 0 0]) ?_ 2 _ rfl; (with_reducible repeat (first | refine blk_drewN ?_ _ | refine blk_drew ?_ | refine blk_alloc ?_ _)); refine blk_put (cs := #[.int .i64 t744, .int .i64 0, .slice none 0 0]) ?_ 1 _ rfl; (with_reducible repeat (first | refine blk_drewN ?_ _ | refine blk_drew ?_ | refine blk_alloc ?_ _)); refine blk_put (cs := #[.int .i64 0, .int .i64 0, .slice none 0 0]) ?_ 0 _ rfl; (with_reducible repeat (first | refine blk_drewN ?_ _ | refine blk_drew ?_ | refine blk_alloc ?_ _)); exact BK750.out))⟩; have n7_ : Aside0 (Below w.heap.size w w73) := ⟨(by rw [hw]; exact (nC HB))⟩; clear hw; clear HO_729002; clear HO741; clear HO748; clear BK720; clear BK728; clear BK743; clear BK750; clear HB; have HO_729002 := n0_; have HO741 := n1_; have HO748 := n2_; have BK720 := n3_; have BK728 := n4_; have BK743 := n5_; have BK750 := n6_; have HB := n7_; clear n0_ n1_ n2_ n3_ n4_ n5_ n6_ n7_; have hcz74_0 : w73.cell? ⟨gb743, 0, none⟩ = some (.int .i64 t737) := (blk_cell BK743.out 0).trans rfl; have hcz74_1 : w73.cell? ⟨gb743, 1, none⟩ = some (.int .i64 t738) := (blk_cell BK743.out 1).trans rfl; have hcz74_2 : w73.cell? ⟨gb743, 2, none⟩ = some (.slice Ao64 t739.length co64) := (blk_cell BK743.out 2).trans rfl; have hfz74_0 := blk_frozen BK743.out 0; have hfz74_1 := blk_frozen BK743.out 1; have hfz74_2 := blk_frozen BK743.out 2; have hcz75_0 : w73.cell? ⟨gb750, 0, none⟩ = some (.int .i64 t744) := (blk_cell BK750.out 0).trans rfl; have hcz75_1 : w73.cell? ⟨gb750, 1, none⟩ = some (.int .i64 t745) := (blk_cell BK750.out 1).trans rfl; have hcz75_2 : w73.cell? ⟨gb750, 2, none⟩ = some (.slice Ao72 t746.length co72) := (blk_cell BK750.out 2).trans rfl; have hfz75_0 := blk_frozen BK750.out 0; have hfz75_1 := blk_frozen BK750.out 1; have hfz75_2 := blk_frozen BK750.out 2) | ((with_reducible refine gate_callee (f := 33) rfl ?_); refine goesL_ (some 74) rfl rfl Try.func33 (by kernel_rfl) rfl #[.agg #[.int .i64 t737, .int .i64 t738, .slice Ao64 t739.length co64], .int .i64 t742, .agg #[.int .i64 t744, .int .i64 t745, .slice Ao72 t746.length co72], .int .i64 t749] rfl (by (try simp only [List.map_toArray, List.map_cons, List.map_nil]); first | done | rfl | (simp only [List.length_drop, List.length_take]; rfl)) ?_; (with_reducible refine (kimberlitelaw03_told.calls kj8 t737 t738 (fun k_ => some k_ = (.slice Ao64 t739.length co64 : Value).ownBlock) (.slice Ao64 t739.length co64) t739 t742 t744 t745 _ _ t746 t749 true t752 w _ ?side1 ?side2 ?side3 ?side4 A28.out).mono ?_); (case side1 => repeat (first | (with_reducible first | exact HB.out | apply below_alloc | apply pw_below_drewN | apply below_drew1 | refine below_set ?_ GE720.out | refine below_set ?_ GE728.out | refine below_set ?_ GE743.out | refine below_set ?_ GE750.out) | exact HB.out)); (case side2 => exact Kd.R_tight rfl HO741.out); (case side3 => exact Kd.C_kept_own (HO748.out) (fun k_ hk_ hs_ => (hk_.2) hs_)); (case side4 => exact (Kd.R_reads' HO748.out).2.1); rintro e w76 ⟨rfl, hy0, hb, hkp⟩; refine ⟨_, rfl, ?_⟩; have n0_ := Aside0.mk (Kd.R_mono (ok' := fun k_ => some k_ ≠ (.slice Ao64 t739.length co64 : Value).ownBlock ∧ some k_ ≠ (.slice Ao72 t746.length co72 : Value).ownBlock) (Kd.R_keptB (HO_729002.out) hkp (fun k_ hk_ hs_ => (hk_.1) hs_)) (fun k_ hk_ => ⟨hk_.1.1, hk_.1.2⟩)); have n1_ := Aside0.mk (blk_kept (nK BK720) hkp (fun hs_ => (fun e_ => (Kd.R_ne HO741.out BK720.out (by decide)) e_) hs_)); have n2_ := Aside0.mk (blk_kept (nK BK728) hkp (fun hs_ => (fun e_ => (Kd.R_ne HO741.out BK728.out (by decide)) e_) hs_)); have n3_ := Aside0.mk (Kd.R_reok rfl hy0 (fun k_ e_ => HO741.out.1 k_ e_)); have n4_ := Aside0.mk (blk_kept (nK BK743) hkp (fun hs_ => (fun e_ => (Kd.R_ne HO741.out BK743.out (by decide)) e_) hs_)); have n5_ := Aside0.mk (Kd.R_mono (ok' := fun k_ => some k_ ≠ (.slice Ao18 t725.length co18 : Value).ownBlock ∧ some k_ ≠ (.slice Ao64 t739.length co64 : Value).ownBlock) (Kd.R_keptB (HO748.out) hkp (fun k_ hk_ hs_ => (hk_.2) hs_)) (fun k_ hk_ => ⟨hk_.1.1, hk_.1.2⟩)); have n6_ := Aside0.mk (blk_kept (nK BK750) hkp (fun hs_ => (fun e_ => (Kd.R_ne HO741.out BK750.out (by decide)) e_) hs_)); have n7_ := Aside0.mk (hb); clear HO_729002; clear BK720; clear BK728; clear HO741; clear BK743; clear HO748; clear BK750; clear HB; have HO_729002 := n0_; have BK720 := n1_; have BK728 := n2_; have HO741 := n3_; have BK743 := n4_; have HO748 := n5_; have BK750 := n6_; have HB := n7_; clear n0_ n1_ n2_ n3_ n4_ n5_ n6_ n7_; (try clear hb); (try clear hkp); (try clear hy0); have hcz77_0 : w76.cell? ⟨gb720, 0, none⟩ = some (.int .i64 a0_0) := (blk_cell BK720.out 0).trans rfl; have hcz77_1 : w76.cell? ⟨gb720, 1, none⟩ = some (.int .i64 a0_1) := (blk_cell BK720.out 1).trans rfl; have hcz77_2 : w76.cell? ⟨gb720, 2, none⟩ = some (.slice A0_2 l0_2.length c0_2) := (blk_cell BK720.out 2).trans rfl; have hfz77_0 := blk_frozen BK720.out 0; have hfz77_1 := blk_frozen BK720.out 1; have hfz77_2 := blk_frozen BK720.out 2; have hcz78_0 : w76.cell? ⟨gb728, 0, none⟩ = some (.int .i64 t723) := (blk_cell BK728.out 0).trans rfl; have hcz78_1 : w76.cell? ⟨gb728, 1, none⟩ = some (.int .i64 t724) := (blk_cell BK728.out 1).trans rfl; have hcz78_2 : w76.cell? ⟨gb728, 2, none⟩ = some (.slice Ao18 t725.length co18) := (blk_cell BK728.out 2).trans rfl; have hfz78_0 := blk_frozen BK728.out 0; have hfz78_1 := blk_frozen BK728.out 1; have hfz78_2 := blk_frozen BK728.out 2) | (go_at_call 15; (with_reducible refine (kimberlitelaw03_alike.calls kj8 a0_0 a0_1 _ _ l0_2 t723 t724 _ _ t725 false _ ?side1 ?side2 ?side3 ?side4 A30.out).mono ?_); (case side1 => repeat (first | exact (Kd.C_below HR0_2.out HB.out) | (with_reducible refine Kd.C_alloc ?_ _) | (with_reducible refine Kd.C_drewN ?_ _) | (with_reducible refine Kd.C_drew ?_))); (case side2 => exact HC0_2.out); (case side3 => repeat (first | exact (Kd.R_reads' HO_729002.out).2.2 | (with_reducible refine Kd.C_alloc ?_ _) | (with_reducible refine Kd.C_drewN ?_ _) | (with_reducible refine Kd.C_drew ?_))); (case side4 => exact (Kd.R_reads' HO_729002.out).2.1); rintro e w79 ⟨rfl, hb⟩; have n0_ := Aside0.mk (Kd.R_below (nR HO_729002) hb); have n1_ := Aside0.mk (Kd.R_below (nR HO741) hb); have n2_ := Aside0.mk (Kd.R_below (nR HO748) hb); have n3_ := Aside0.mk (nB BK720 hb); have n4_ := Aside0.mk (nB BK728 hb); have n5_ := Aside0.mk (nB BK743 hb); have n6_ := Aside0.mk (nB BK750 hb); have n7_ := Aside0.mk (below_step (nC HB) hb); clear HO_729002; clear HO741; clear HO748; clear BK720; clear BK728; clear BK743; clear BK750; clear HB; have HO_729002 := n0_; have HO741 := n1_; have HO748 := n2_; have BK720 := n3_; have BK728 := n4_; have BK743 := n5_; have BK750 := n6_; have HB := n7_; clear n0_ n1_ n2_ n3_ n4_ n5_ n6_ n7_; (try clear hb); (try clear hb2); (try clear hk); (try clear hi)))
           go_ret
           exact ⟨by first | rfl | (simp [errW_none, errW_some] <;> rfl) | (simp [*, errW_none, errW_some] <;> rfl), nC HB⟩
       · replace c29 := Bool.eq_false_iff.mpr c29
         subst c29
         have H1 : (some false) = some r := by rw [if_neg (show ¬ (false = true) by decide)] at H; exact H
         clear H
         have H := H1
         clear H1
         obtain rfl := Option.some.inj H
         have hnb80 := NB728_720.out
         have hnc80 := NB720_728.out
         have hcz81_0 : wc.cell? ⟨gb728, 0, none⟩ = some (.int .i64 t723) := (blk_cell BK728.out 0).trans rfl
         have hcz81_1 : wc.cell? ⟨gb728, 1, none⟩ = some (.int .i64 t724) := (blk_cell BK728.out 1).trans rfl
         have hcz81_2 : wc.cell? ⟨gb728, 2, none⟩ = some (.slice Ao18 t725.length co18) := (blk_cell BK728.out 2).trans rfl
         have hfz81_0 := blk_frozen BK728.out 0
         have hfz81_1 := blk_frozen BK728.out 1
         have hfz81_2 := blk_frozen BK728.out 2
         go_wp2_with (first | ((with_reducible refine gate_callee (f := 36) rfl ?_); refine goesL_ (some 60) rfl rfl Try.func36 (by kernel_rfl) rfl #[.agg #[.int .i64 t723, .int .i64 t724, .slice Ao18 t725.length co18], .int .i64 a1, .int .i64 a2] rfl (by (try simp only [List.map_toArray, List.map_cons, List.map_nil]); first | done | rfl | (simp only [List.length_drop, List.length_take]; rfl)) ?_; (with_reducible refine (curve_Conj.calls kj8 t723 t724 _ _ t725 a1 a2 t737 t738 t739 t742 _ ?side1 ?side2 A26.out).mono ?_); (case side1 => repeat (first | exact (Kd.R_reads' HO_729002.out).2.2 | (with_reducible refine Kd.C_alloc ?_ _) | (with_reducible refine Kd.C_drewN ?_ _) | (with_reducible refine Kd.C_drew ?_))); (case side2 => exact (Kd.R_reads' HO_729002.out).2.1); rintro e w82 ⟨v740, rfl, ho0, hb⟩; refine ⟨_, rfl, ?_⟩; have n0_ := Aside0.mk (Kd.R_elder' (nR HO_729002) (Kd.R_base ho0) hb); have n1_ := Aside0.mk (Kd.R_lower (Kd.R_new' ho0 (Kd.R_lt (nR HO_729002))) (below_size (nC HB))); have n2_ := Aside0.mk (nB BK720 hb); have n3_ := Aside0.mk (nB BK728 hb); have n4_ := Aside0.mk (below_step (nC HB) hb); clear HO_729002; clear BK720; clear BK728; clear HB; have HO_729002 := n0_; have HO741 := n1_; have BK720 := n2_; have BK728 := n3_; have HB := n4_; clear n0_ n1_ n2_ n3_ n4_; (try clear hb); (try clear hb2); (try clear hk); (try clear hi); (try clear ho0)) | ((with_reducible refine gate_dst (N := 16) rfl ?_); refine box_event ?hg (N := 16) ?hd (cs := #[.int .i64 0, .int .i64 0, .slice none 0 0]) (t := 24) ?hr ?_; (case hd => rfl); (case hg => rfl); (case hr => first | (go_simp; done) | (go_simp; rfl)); intro gb743 hg w83 hbox hb; have n0_ := Aside0.mk (Kd.R_below (nR HO_729002) hb); have n1_ := Aside0.mk (Kd.R_below (nR HO741) hb); have n2_ := Aside0.mk (nB BK720 hb); have n3_ := Aside0.mk (nB BK728 hb); have n4_ := Aside0.mk (below_step (nC HB) hb); have n5_ := Aside0.mk (hbox); have n6_ := Aside0.mk ((by rw [hg]; exact (below_size (nC HB)) : w.heap.size ≤ gb743)); have n7_ := Aside0.mk ((by rw [hg]; exact (below_size (nC HB)) : w.heap.size ≤ gb743)); have n8_ := Aside0.mk ((by rw [hg]; exact Nat.ne_of_lt (blk_lt (g := gb720) (o := .cells #[.int .i64 a0_0, .int .i64 a0_1, .slice A0_2 l0_2.length c0_2] 24 (0, 0)) (nK BK720)) : gb720 ≠ gb743)); have n9_ := Aside0.mk ((by rw [hg]; exact Nat.ne_of_gt (blk_lt (g := gb720) (o := .cells #[.int .i64 a0_0, .int .i64 a0_1, .slice A0_2 l0_2.length c0_2] 24 (0, 0)) (nK BK720)) : gb743 ≠ gb720)); have n10_ := Aside0.mk ((by rw [hg]; exact Nat.ne_of_lt (blk_lt (g := gb728) (o := .cells #[.int .i64 t723, .int .i64 t724, .slice Ao18 t725.length co18] 24 (0, 0)) (nK BK728)) : gb728 ≠ gb743)); have n11_ := Aside0.mk ((by rw [hg]; exact Nat.ne_of_gt (blk_lt (g := gb728) (o := .cells #[.int .i64 t723, .int .i64 t724, .slice Ao18 t725.length co18] 24 (0, 0)) (nK BK728)) : gb743 ≠ gb728)); clear HO_729002; clear HO741; clear BK720; clear BK728; clear HB; have HO_729002 := n0_; have HO741 := n1_; have BK720 := n2_; have BK728 := n3_; have HB := n4_; have BK743 := n5_; have GW743 := n6_; have GE743 := n7_; have NB720_743 := n8_; have NB743_720 := n9_; have NB728_743 := n10_; have NB743_728 := n11_; clear n0_ n1_ n2_ n3_ n4_ n5_ n6_ n7_ n8_ n9_ n10_ n11_; clear hb hbox hg; have hnb84 := NB743_720.out; have hnc84 := NB720_743.out; have hnb85 := NB743_728.out; have hnc85 := NB728_743.out; have hcz86_0 : w83.cell? ⟨gb743, 0, none⟩ = some (.int .i64 0) := (blk_cell BK743.out 0).trans rfl; have hcz86_1 : w83.cell? ⟨gb743, 1, none⟩ = some (.int .i64 0) := (blk_cell BK743.out 1).trans rfl; have hcz86_2 : w83.cell? ⟨gb743, 2, none⟩ = some (.slice none 0 0) := (blk_cell BK743.out 2).trans rfl; have hfz86_0 := blk_frozen BK743.out 0; have hfz86_1 := blk_frozen BK743.out 1; have hfz86_2 := blk_frozen BK743.out 2; obtain ⟨Ao87, co87, eo87⟩ := Kd.R_slice HO741.out; subst eo87; have hcz88_0 : w83.cell? ⟨gb720, 0, none⟩ = some (.int .i64 a0_0) := (blk_cell BK720.out 0).trans rfl; have hcz88_1 : w83.cell? ⟨gb720, 1, none⟩ = some (.int .i64 a0_1) := (blk_cell BK720.out 1).trans rfl; have hcz88_2 : w83.cell? ⟨gb720, 2, none⟩ = some (.slice A0_2 l0_2.length c0_2) := (blk_cell BK720.out 2).trans rfl; have hfz88_0 := blk_frozen BK720.out 0; have hfz88_1 := blk_frozen BK720.out 1; have hfz88_2 := blk_frozen BK720.out 2) | ((with_reducible refine gate_callee (f := 37) rfl ?_); refine goesL_ (some 67) rfl rfl Try.func37 (by kernel_rfl) rfl #[.agg #[.int .i64 a0_0, .int .i64 a0_1, .slice A0_2 l0_2.length c0_2], .int .i64 a1, .int .i64 a2] rfl (by (try simp only [List.map_toArray, List.map_cons, List.map_nil]); first | done | rfl | (simp only [List.length_drop, List.length_take]; rfl)) ?_; (with_reducible refine (kimberliteref03_Conj.calls kj8 a0_0 a0_1 _ _ l0_2 a1 a2 t744 t745 t746 t749 _ ?side1 ?side2 A27.out).mono ?_); (case side1 => exact Kd.C_below HR0_2.out (nC HB)); (case side2 => exact HC0_2.out); rintro e w89 ⟨v747, rfl, ho0, hb⟩; refine ⟨_, rfl, ?_⟩; have n0_ := Aside0.mk (Kd.R_elder' (by (with_reducible repeat (first | apply Kd.R_alloc | apply Kd.R_drewN | apply Kd.R_drew)); exact (Kd.R_mono (Kd.R_far (p := ⟨gb743, 2, none⟩) (Kd.R_far (p := ⟨gb743, 1, none⟩) (Kd.R_far (p := ⟨gb743, 0, none⟩) (Kd.R_types HO_729002.out BK743.out (by decide)) (fun _ hk => hk.2) (.int .i64 t737)) (fun _ hk => hk.2) (.int .i64 t738)) (fun _ hk => hk.2) (.slice Ao87 t739.length co87)) (fun _ h_ => h_.1))) (Kd.R_base ho0) hb); have n1_ := Aside0.mk (Kd.R_elder' (by (with_reducible repeat (first | apply Kd.R_alloc | apply Kd.R_drewN | apply Kd.R_drew)); exact (Kd.R_mono (Kd.R_far (p := ⟨gb743, 2, none⟩) (Kd.R_far (p := ⟨gb743, 1, none⟩) (Kd.R_far (p := ⟨gb743, 0, none⟩) (Kd.R_types HO741.out BK743.out (by decide)) (fun _ hk => hk.2) (.int .i64 t737)) (fun _ hk => hk.2) (.int .i64 t738)) (fun _ hk => hk.2) (.slice Ao87 t739.length co87)) (fun _ h_ => h_.1))) (Kd.R_base ho0) hb); have n2_ := Aside0.mk (Kd.R_lower (Kd.R_new' (Kd.R_new' ho0 (Kd.R_lt (by (with_reducible repeat (first | apply Kd.R_alloc | apply Kd.R_drewN | apply Kd.R_drew)); exact (Kd.R_mono (Kd.R_far (p := ⟨gb743, 2, none⟩) (Kd.R_far (p := ⟨gb743, 1, none⟩) (Kd.R_far (p := ⟨gb743, 0, none⟩) (Kd.R_types HO_729002.out BK743.out (by decide)) (fun _ hk => hk.2) (.int .i64 t737)) (fun _ hk => hk.2) (.int .i64 t738)) (fun _ hk => hk.2) (.slice Ao87 t739.length co87)) (fun _ h_ => h_.1))))) (Kd.R_lt (by (with_reducible repeat (first | apply Kd.R_alloc | apply Kd.R_drewN | apply Kd.R_drew)); exact (Kd.R_mono (Kd.R_far (p := ⟨gb743, 2, none⟩) (Kd.R_far (p := ⟨gb743, 1, none⟩) (Kd.R_far (p := ⟨gb743, 0, none⟩) (Kd.R_types HO741.out BK743.out (by decide)) (fun _ hk => hk.2) (.int .i64 t737)) (fun _ hk => hk.2) (.int .i64 t738)) (fun _ hk => hk.2) (.slice Ao87 t739.length co87)) (fun _ h_ => h_.1))))) (below_size (nC HB))); have n3_ := Aside0.mk (blk_below (g := gb720) (o := .cells #[.int .i64 a0_0, .int .i64 a0_1, .slice A0_2 l0_2.length c0_2] 24 (0, 0)) (by (with_reducible repeat (first | refine blk_drewN ?_ _ | refine blk_drew ?_ | refine blk_alloc ?_ _)); refine blk_far ?_ NB720_743.out _; (with_reducible repeat (first | refine blk_drewN ?_ _ | refine blk_drew ?_ | refine blk_alloc ?_ _)); refine blk_far ?_ NB720_743.out _; (with_reducible repeat (first | refine blk_drewN ?_ _ | refine blk_drew ?_ | refine blk_alloc ?_ _)); refine blk_far ?_ NB720_743.out _; (with_reducible repeat (first | refine blk_drewN ?_ _ | refine blk_drew ?_ | refine blk_alloc ?_ _)); exact BK720.out) hb); have n4_ := Aside0.mk (blk_below (g := gb728) (o := .cells #[.int .i64 t723, .int .i64 t724, .slice Ao18 t725.length co18] 24 (0, 0)) (by (with_reducible repeat (first | refine blk_drewN ?_ _ | refine blk_drew ?_ | refine blk_alloc ?_ _)); refine blk_far ?_ NB728_743.out _; (with_reducible repeat (first | refine blk_drewN ?_ _ | refine blk_drew ?_ | refine blk_alloc ?_ _)); refine blk_far ?_ NB728_743.out _; (with_reducible repeat (first | refine blk_drewN ?_ _ | refine blk_drew ?_ | refine blk_alloc ?_ _)); refine blk_far ?_ NB728_743.out _; (with_reducible repeat (first | refine blk_drewN ?_ _ | refine blk_drew ?_ | refine blk_alloc ?_ _)); exact BK728.out) hb); have n5_ := Aside0.mk (blk_below (g := gb743) (o := .cells #[.int .i64 t737, .int .i64 t738, .slice Ao87 t739.length co87] 24 (0, 0)) (by (with_reducible repeat (first | refine blk_drewN ?_ _ | refine blk_drew ?_ | refine blk_alloc ?_ _)); refine blk_put (cs := #[.int .i64 t737, .int .i64 t738, .slice none 0 0]) ?_ 2 _ rfl; (with_reducible repeat (first | refine blk_drewN ?_ _ | refine blk_drew ?_ | refine blk_alloc ?_ _)); refine blk_put (cs := #[.int .i64 t737, .int .i64 0, .slice none 0 0]) ?_ 1 _ rfl; (with_reducible repeat (first | refine blk_drewN ?_ _ | refine blk_drew ?_ | refine blk_alloc ?_ _)); refine blk_put (cs := #[.int .i64 0, .int .i64 0, .slice none 0 0]) ?_ 0 _ rfl; (with_reducible repeat (first | refine blk_drewN ?_ _ | refine blk_drew ?_ | refine blk_alloc ?_ _)); exact BK743.out) hb); have n6_ := Aside0.mk (below_step (nC HB) hb); clear HO_729002; clear HO741; clear BK720; clear BK728; clear BK743; clear HB; have HO_729002 := n0_; have HO741 := n1_; have HO748 := n2_; have BK720 := n3_; have BK728 := n4_; have BK743 := n5_; have HB := n6_; clear n0_ n1_ n2_ n3_ n4_ n5_ n6_; (try clear hb); (try clear hb2); (try clear hk); (try clear hi); (try clear ho0)) | ((with_reducible refine gate_dst (N := 17) rfl ?_); refine box_event ?hg (N := 17) ?hd (cs := #[.int .i64 0, .int .i64 0, .slice none 0 0]) (t := 24) ?hr ?_; (case hd => rfl); (case hg => rfl); (case hr => first | (go_simp; done) | (go_simp; rfl)); intro gb750 hg w90 hbox hb; have n0_ := Aside0.mk (Kd.R_below (nR HO_729002) hb); have n1_ := Aside0.mk (Kd.R_below (nR HO741) hb); have n2_ := Aside0.mk (Kd.R_below (nR HO748) hb); have n3_ := Aside0.mk (nB BK720 hb); have n4_ := Aside0.mk (nB BK728 hb); have n5_ := Aside0.mk (nB BK743 hb); have n6_ := Aside0.mk (below_step (nC HB) hb); have n7_ := Aside0.mk (hbox); have n8_ := Aside0.mk ((by rw [hg]; exact (below_size (nC HB)) : w.heap.size ≤ gb750)); have n9_ := Aside0.mk ((by rw [hg]; exact (below_size (nC HB)) : w.heap.size ≤ gb750)); have n10_ := Aside0.mk ((by rw [hg]; exact Nat.ne_of_lt (blk_lt (g := gb720) (o := .cells #[.int .i64 a0_0, .int .i64 a0_1, .slice A0_2 l0_2.length c0_2] 24 (0, 0)) (nK BK720)) : gb720 ≠ gb750)); have n11_ := Aside0.mk ((by rw [hg]; exact Nat.ne_of_gt (blk_lt (g := gb720) (o := .cells #[.int .i64 a0_0, .int .i64 a0_1, .slice A0_2 l0_2.length c0_2] 24 (0, 0)) (nK BK720)) : gb750 ≠ gb720)); have n12_ := Aside0.mk ((by rw [hg]; exact Nat.ne_of_lt (blk_lt (g := gb728) (o := .cells #[.int .i64 t723, .int .i64 t724, .slice Ao18 t725.length co18] 24 (0, 0)) (nK BK728)) : gb728 ≠ gb750)); have n13_ := Aside0.mk ((by rw [hg]; exact Nat.ne_of_gt (blk_lt (g := gb728) (o := .cells #[.int .i64 t723, .int .i64 t724, .slice Ao18 t725.length co18] 24 (0, 0)) (nK BK728)) : gb750 ≠ gb728)); have n14_ := Aside0.mk ((by rw [hg]; exact Nat.ne_of_lt (blk_lt (g := gb743) (o := .cells #[.int .i64 t737, .int .i64 t738, .slice Ao87 t739.length co87] 24 (0, 0)) (nK BK743)) : gb743 ≠ gb750)); have n15_ := Aside0.mk ((by rw [hg]; exact Nat.ne_of_gt (blk_lt (g := gb743) (o := .cells #[.int .i64 t737, .int .i64 t738, .slice Ao87 t739.length co87] 24 (0, 0)) (nK BK743)) : gb750 ≠ gb743)); clear HO_729002; clear HO741; clear HO748; clear BK720; clear BK728; clear BK743; clear HB; have HO_729002 := n0_; have HO741 := n1_; have HO748 := n2_; have BK720 := n3_; have BK728 := n4_; have BK743 := n5_; have HB := n6_; have BK750 := n7_; have GW750 := n8_; have GE750 := n9_; have NB720_750 := n10_; have NB750_720 := n11_; have NB728_750 := n12_; have NB750_728 := n13_; have NB743_750 := n14_; have NB750_743 := n15_; clear n0_ n1_ n2_ n3_ n4_ n5_ n6_ n7_ n8_ n9_ n10_ n11_ n12_ n13_ n14_ n15_; clear hb hbox hg; have hnb91 := NB750_720.out; have hnc91 := NB720_750.out; have hnb92 := NB750_728.out; have hnc92 := NB728_750.out; have hnb93 := NB750_743.out; have hnc93 := NB743_750.out; have hcz94_0 : w90.cell? ⟨gb750, 0, none⟩ = some (.int .i64 0) := (blk_cell BK750.out 0).trans rfl; have hcz94_1 : w90.cell? ⟨gb750, 1, none⟩ = some (.int .i64 0) := (blk_cell BK750.out 1).trans rfl; have hcz94_2 : w90.cell? ⟨gb750, 2, none⟩ = some (.slice none 0 0) := (blk_cell BK750.out 2).trans rfl; have hfz94_0 := blk_frozen BK750.out 0; have hfz94_1 := blk_frozen BK750.out 1; have hfz94_2 := blk_frozen BK750.out 2; obtain ⟨Ao95, co95, eo95⟩ := Kd.R_slice HO748.out; subst eo95) | ((with_reducible refine gate_store (t := 24) (p := 17) rfl ?_); refine store_event (t := 24) (p := 17) (v := ?vo_w96) (w1 := (((w90.setCell ⟨gb750, 0, none⟩ (.int .i64 t744)).setCell ⟨gb750, 1, none⟩ (.int .i64 t745)).setCell ⟨gb750, 2, none⟩ (.slice Ao95 t746.length co95))) ?hg ?ho ?hn ?hr ?_; (case ho => rfl); (case hg => rfl); (case hn => rfl); (case hr => first | (go_simp; done) | (go_simp; rfl)); intro w96 hw; have n0_ : Aside0 (Kd.R (Kd.int .i64) 3 w96 w.heap.size (fun k_ => some k_ ≠ (.slice Ao87 t739.length co87 : Value).ownBlock ∧ some k_ ≠ (.slice Ao95 t746.length co95 : Value).ownBlock) (.slice Ao18 t725.length co18) t725) := ⟨(by rw [hw]; exact (by (with_reducible repeat (first | apply Kd.R_alloc | apply Kd.R_drewN | apply Kd.R_drew)); exact Kd.R_mono (Kd.R_far (p := ⟨gb750, 2, none⟩) (Kd.R_far (p := ⟨gb750, 1, none⟩) (Kd.R_far (p := ⟨gb750, 0, none⟩) (Kd.R_types HO_729002.out BK750.out (by decide)) (fun _ hk => hk.2) (.int .i64 t744)) (fun _ hk => hk.2) (.int .i64 t745)) (fun _ hk => hk.2) (.slice Ao95 t746.length co95)) (fun _ hk => ⟨hk.1.1.2, hk.1.2⟩)))⟩; have n1_ : Aside0 (Kd.R (Kd.int .i64) 3 w96 w.heap.size (fun k_ => some k_ ≠ (.slice Ao18 t725.length co18 : Value).ownBlock ∧ some k_ ≠ (.slice Ao95 t746.length co95 : Value).ownBlock) (.slice Ao87 t739.length co87) t739) := ⟨(by rw [hw]; exact (by (with_reducible repeat (first | apply Kd.R_alloc | apply Kd.R_drewN | apply Kd.R_drew)); exact Kd.R_mono (Kd.R_far (p := ⟨gb750, 2, none⟩) (Kd.R_far (p := ⟨gb750, 1, none⟩) (Kd.R_far (p := ⟨gb750, 0, none⟩) (Kd.R_types HO741.out BK750.out (by decide)) (fun _ hk => hk.2) (.int .i64 t744)) (fun _ hk => hk.2) (.int .i64 t745)) (fun _ hk => hk.2) (.slice Ao95 t746.length co95)) (fun _ hk => ⟨hk.1.1.2, hk.1.2⟩)))⟩; have n2_ : Aside0 (Kd.R (Kd.int .i64) 3 w96 w.heap.size (fun k_ => some k_ ≠ (.slice Ao18 t725.length co18 : Value).ownBlock ∧ some k_ ≠ (.slice Ao87 t739.length co87 : Value).ownBlock) (.slice Ao95 t746.length co95) t746) := ⟨(by rw [hw]; exact (by (with_reducible repeat (first | apply Kd.R_alloc | apply Kd.R_drewN | apply Kd.R_drew)); exact Kd.R_mono (Kd.R_far (p := ⟨gb750, 2, none⟩) (Kd.R_far (p := ⟨gb750, 1, none⟩) (Kd.R_far (p := ⟨gb750, 0, none⟩) (Kd.R_types HO748.out BK750.out (by decide)) (fun _ hk => hk.2) (.int .i64 t744)) (fun _ hk => hk.2) (.int .i64 t745)) (fun _ hk => hk.2) (.slice Ao95 t746.length co95)) (fun _ hk => ⟨hk.1.1.2, hk.1.2⟩)))⟩; have n3_ : Aside0 (w96.heap[gb720]? = some (.cells #[.int .i64 a0_0, .int .i64 a0_1, .slice A0_2 l0_2.length c0_2] 24 (0, 0))) := ⟨(by rw [hw]; exact (by (with_reducible repeat (first | refine blk_drewN ?_ _ | refine blk_drew ?_ | refine blk_alloc ?_ _)); refine blk_far ?_ NB720_750.out _; (with_reducible repeat (first | refine blk_drewN ?_ _ | refine blk_drew ?_ | refine blk_alloc ?_ _)); refine blk_far ?_ NB720_750.out _; (with_reducible repeat (first | refine blk_drewN ?_ _ | refine blk_drew ?_ | refine blk_alloc ?_ _)); refine blk_far ?_ NB720_750.out _; (with_reducible repeat (first | refine blk_drewN ?_ _ | refine blk_drew ?_ | refine blk_alloc ?_ _)); exact BK720.out))⟩; have n4_ : Aside0 (w96.heap[gb728]? = some (.cells #[.int .i64 t723, .int .i64 t724, .slice Ao18 t725.length co18] 24 (0, 0))) := ⟨(by rw [hw]; exact (by (with_reducible repeat (first | refine blk_drewN ?_ _ | refine blk_drew ?_ | refine blk_alloc ?_ _)); refine blk_far ?_ NB728_750.out _; (with_reducible repeat (first | refine blk_drewN ?_ _ | refine blk_drew ?_ | refine blk_alloc ?_ _)); refine blk_far ?_ NB728_750.out _; (with_reducible repeat (first | refine blk_drewN ?_ _ | refine blk_drew ?_ | refine blk_alloc ?_ _)); refine blk_far ?_ NB728_750.out _; (with_reducible repeat (first | refine blk_drewN ?_ _ | refine blk_drew ?_ | refine blk_alloc ?_ _)); exact BK728.out))⟩; have n5_ : Aside0 (w96.heap[gb743]? = some (.cells #[.int .i64 t737, .int .i64 t738, .slice Ao87 t739.length co87] 24 (0, 0))) := ⟨(by rw [hw]; exact (by (with_reducible repeat (first | refine blk_drewN ?_ _ | refine blk_drew ?_ | refine blk_alloc ?_ _)); refine blk_far ?_ NB743_750.out _; (with_reducible repeat (first | refine blk_drewN ?_ _ | refine blk_drew ?_ | refine blk_alloc ?_ _)); refine blk_far ?_ NB743_750.out _; (with_reducible repeat (first | refine blk_drewN ?_ _ | refine blk_drew ?_ | refine blk_alloc ?_ _)); refine blk_far ?_ NB743_750.out _; (with_reducible repeat (first | refine blk_drewN ?_ _ | refine blk_drew ?_ | refine blk_alloc ?_ _)); exact BK743.out))⟩; have n6_ : Aside0 (w96.heap[gb750]? = some (.cells #[.int .i64 t744, .int .i64 t745, .slice Ao95 t746.length co95] 24 (0, 0))) := ⟨(by rw [hw]; exact (by (with_reducible repeat (first | refine blk_drewN ?_ _ | refine blk_drew ?_ | refine blk_alloc ?_ _)); refine blk_put (cs := #[.int .i64 t744, .int .i64 t745, .slice none 0 0]) ?_ 2 _ rfl; (with_reducible repeat (first | refine blk_drewN ?_ _ | refine blk_drew ?_ | refine blk_alloc ?_ _)); refine blk_put (cs := #[.int .i64 t744, .int .i64 0, .slice none 0 0]) ?_ 1 _ rfl; (with_reducible repeat (first | refine blk_drewN ?_ _ | refine blk_drew ?_ | refine blk_alloc ?_ _)); refine blk_put (cs := #[.int .i64 0, .int .i64 0, .slice none 0 0]) ?_ 0 _ rfl; (with_reducible repeat (first | refine blk_drewN ?_ _ | refine blk_drew ?_ | refine blk_alloc ?_ _)); exact BK750.out))⟩; have n7_ : Aside0 (Below w.heap.size w w96) := ⟨(by rw [hw]; exact (nC HB))⟩; clear hw; clear HO_729002; clear HO741; clear HO748; clear BK720; clear BK728; clear BK743; clear BK750; clear HB; have HO_729002 := n0_; have HO741 := n1_; have HO748 := n2_; have BK720 := n3_; have BK728 := n4_; have BK743 := n5_; have BK750 := n6_; have HB := n7_; clear n0_ n1_ n2_ n3_ n4_ n5_ n6_ n7_; have hcz97_0 : w96.cell? ⟨gb743, 0, none⟩ = some (.int .i64 t737) := (blk_cell BK743.out 0).trans rfl; have hcz97_1 : w96.cell? ⟨gb743, 1, none⟩ = some (.int .i64 t738) := (blk_cell BK743.out 1).trans rfl; have hcz97_2 : w96.cell? ⟨gb743, 2, none⟩ = some (.slice Ao87 t739.length co87) := (blk_cell BK743.out 2).trans rfl; have hfz97_0 := blk_frozen BK743.out 0; have hfz97_1 := blk_frozen BK743.out 1; have hfz97_2 := blk_frozen BK743.out 2; have hcz98_0 : w96.cell? ⟨gb750, 0, none⟩ = some (.int .i64 t744) := (blk_cell BK750.out 0).trans rfl; have hcz98_1 : w96.cell? ⟨gb750, 1, none⟩ = some (.int .i64 t745) := (blk_cell BK750.out 1).trans rfl; have hcz98_2 : w96.cell? ⟨gb750, 2, none⟩ = some (.slice Ao95 t746.length co95) := (blk_cell BK750.out 2).trans rfl; have hfz98_0 := blk_frozen BK750.out 0; have hfz98_1 := blk_frozen BK750.out 1; have hfz98_2 := blk_frozen BK750.out 2) | ((with_reducible refine gate_callee (f := 33) rfl ?_); refine goesL_ (some 74) rfl rfl Try.func33 (by kernel_rfl) rfl #[.agg #[.int .i64 t737, .int .i64 t738, .slice Ao87 t739.length co87], .int .i64 t742, .agg #[.int .i64 t744, .int .i64 t745, .slice Ao95 t746.length co95], .int .i64 t749] rfl (by (try simp only [List.map_toArray, List.map_cons, List.map_nil]); first | done | rfl | (simp only [List.length_drop, List.length_take]; rfl)) ?_; (with_reducible refine (kimberlitelaw03_told.calls kj8 t737 t738 (fun k_ => some k_ = (.slice Ao87 t739.length co87 : Value).ownBlock) (.slice Ao87 t739.length co87) t739 t742 t744 t745 _ _ t746 t749 false t752 w _ ?side1 ?side2 ?side3 ?side4 A28.out).mono ?_); (case side1 => repeat (first | (with_reducible first | exact HB.out | apply below_alloc | apply pw_below_drewN | apply below_drew1 | refine below_set ?_ GE720.out | refine below_set ?_ GE728.out | refine below_set ?_ GE743.out | refine below_set ?_ GE750.out) | exact HB.out)); (case side2 => exact Kd.R_tight rfl HO741.out); (case side3 => exact Kd.C_kept_own (HO748.out) (fun k_ hk_ hs_ => (hk_.2) hs_)); (case side4 => exact (Kd.R_reads' HO748.out).2.1); rintro e w99 ⟨rfl, hy0, hb, hkp⟩; refine ⟨_, rfl, ?_⟩; have n0_ := Aside0.mk (Kd.R_mono (ok' := fun k_ => some k_ ≠ (.slice Ao87 t739.length co87 : Value).ownBlock ∧ some k_ ≠ (.slice Ao95 t746.length co95 : Value).ownBlock) (Kd.R_keptB (HO_729002.out) hkp (fun k_ hk_ hs_ => (hk_.1) hs_)) (fun k_ hk_ => ⟨hk_.1.1, hk_.1.2⟩)); have n1_ := Aside0.mk (blk_kept (nK BK720) hkp (fun hs_ => (fun e_ => (Kd.R_ne HO741.out BK720.out (by decide)) e_) hs_)); have n2_ := Aside0.mk (blk_kept (nK BK728) hkp (fun hs_ => (fun e_ => (Kd.R_ne HO741.out BK728.out (by decide)) e_) hs_)); have n3_ := Aside0.mk (Kd.R_reok rfl hy0 (fun k_ e_ => HO741.out.1 k_ e_)); have n4_ := Aside0.mk (blk_kept (nK BK743) hkp (fun hs_ => (fun e_ => (Kd.R_ne HO741.out BK743.out (by decide)) e_) hs_)); have n5_ := Aside0.mk (Kd.R_mono (ok' := fun k_ => some k_ ≠ (.slice Ao18 t725.length co18 : Value).ownBlock ∧ some k_ ≠ (.slice Ao87 t739.length co87 : Value).ownBlock) (Kd.R_keptB (HO748.out) hkp (fun k_ hk_ hs_ => (hk_.2) hs_)) (fun k_ hk_ => ⟨hk_.1.1, hk_.1.2⟩)); have n6_ := Aside0.mk (blk_kept (nK BK750) hkp (fun hs_ => (fun e_ => (Kd.R_ne HO741.out BK750.out (by decide)) e_) hs_)); have n7_ := Aside0.mk (hb); clear HO_729002; clear BK720; clear BK728; clear HO741; clear BK743; clear HO748; clear BK750; clear HB; have HO_729002 := n0_; have BK720 := n1_; have BK728 := n2_; have HO741 := n3_; have BK743 := n4_; have HO748 := n5_; have BK750 := n6_; have HB := n7_; clear n0_ n1_ n2_ n3_ n4_ n5_ n6_ n7_; (try clear hb); (try clear hkp); (try clear hy0)))
         go_ret
         exact ⟨by first | rfl | (simp [errW_none, errW_some] <;> rfl) | (simp [*, errW_none, errW_some] <;> rfl), nC HB⟩
 · replace c5 := Bool.eq_false_iff.mpr c5
   subst c5
   have H1 : ((kimberlitelaw03_alive.f).bind fun t722 => (some t722)) = some r := by rw [if_neg (show ¬ (false = true) by decide)] at H; exact H
   clear H
   have H := H1
   clear H1
   replace H := Option.bind_eq_some_iff.mp H
   obtain ⟨t722, A1000, H⟩ := H
   replace H : (some t722) = some r := H
   have A100 := Aside0.mk A1000
   clear A1000
   obtain rfl := Option.some.inj H
   go_enter Try.func9, Try.ntmps9
   go_wp2_with (first | ((with_reducible refine gate_dst (N := 3) rfl ?_); refine box_event ?hg (N := 3) ?hd (cs := #[.int .i64 a0_0, .int .i64 a0_1, .slice A0_2 l0_2.length c0_2]) (t := 24) ?hr ?_; (case hd => rfl); (case hg => rfl); (case hr => first | (go_simp; done) | (go_simp; rfl)); intro gb720 hg w101 hbox hb; have n0_ := Aside0.mk (below_step (nC HB) hb); have n1_ := Aside0.mk (hbox); have n2_ := Aside0.mk ((by rw [hg]; exact (below_size (nC HB)) : w.heap.size ≤ gb720)); have n3_ := Aside0.mk ((by rw [hg]; exact (below_size (nC HB)) : w.heap.size ≤ gb720)); clear HB; have HB := n0_; have BK720 := n1_; have GW720 := n2_; have GE720 := n3_; clear n0_ n1_ n2_ n3_; clear hb hbox hg; have hcz102_0 : w101.cell? ⟨gb720, 0, none⟩ = some (.int .i64 a0_0) := (blk_cell BK720.out 0).trans rfl; have hcz102_1 : w101.cell? ⟨gb720, 1, none⟩ = some (.int .i64 a0_1) := (blk_cell BK720.out 1).trans rfl; have hcz102_2 : w101.cell? ⟨gb720, 2, none⟩ = some (.slice A0_2 l0_2.length c0_2) := (blk_cell BK720.out 2).trans rfl; have hfz102_0 := blk_frozen BK720.out 0; have hfz102_1 := blk_frozen BK720.out 1; have hfz102_2 := blk_frozen BK720.out 2) | ((with_reducible refine gate_callee (f := 22) rfl ?_); refine goesL_ (some 19) rfl rfl Try.func22 (by kernel_rfl) rfl #[.agg #[.int .i64 a0_0, .int .i64 a0_1, .slice A0_2 l0_2.length c0_2]] rfl (by (try simp only [List.map_toArray, List.map_cons, List.map_nil]); first | done | rfl | (simp only [List.length_drop, List.length_take]; rfl)) ?_; (with_reducible refine (kimberlitelaw03_few.calls a0_0 a0_1 _ _ l0_2 false _ ?side1 ?side2 A4.out).mono ?_); (case side1 => repeat (first | exact (Kd.C_below HR0_2.out HB.out) | (with_reducible refine Kd.C_alloc ?_ _) | (with_reducible refine Kd.C_drewN ?_ _) | (with_reducible refine Kd.C_drew ?_))); (case side2 => exact HC0_2.out); rintro e w103 ⟨rfl, hb⟩; refine ⟨_, rfl, ?_⟩; have n0_ := Aside0.mk (nB BK720 hb); have n1_ := Aside0.mk (below_step (nC HB) hb); clear BK720; clear HB; have BK720 := n0_; have HB := n1_; clear n0_ n1_; (try clear hb); (try clear hb2); (try clear hk); (try clear hi)) | ((with_reducible refine gate_callee (f := 17) rfl ?_); refine goesL_ (some 21) rfl rfl Try.func17 (by kernel_rfl) rfl #[] rfl (by (try simp only [List.map_toArray, List.map_cons, List.map_nil]); first | done | rfl | (simp only [List.length_drop, List.length_take]; rfl)) ?_; (with_reducible refine (kimberlitelaw03_alive.calls  t722 _ A100.out).mono ?_); rintro e w104 ⟨rfl, hb⟩; refine ⟨_, rfl, ?_⟩; have n0_ := Aside0.mk (nB BK720 hb); have n1_ := Aside0.mk (below_step (nC HB) hb); clear BK720; clear HB; have BK720 := n0_; have HB := n1_; clear n0_ n1_; (try clear hb); (try clear hb2); (try clear hk); (try clear hi)))
   go_ret
   exact ⟨by first | rfl | (simp [errW_none, errW_some] <;> rfl) | (simp [*, errW_none, errW_some] <;> rfl), nC HB⟩
end Go.Proofs.Ytingjpcgehgiiaa.Pr
end
section
namespace Go.Proofs.Ytingjpcgehgiiaa.Pr
open Go.RowKit Go.Proofs.YtingjpcgehgiiaaW.PrintWords Go.Proofs.YtingjpcgehgiiaaW.PrintLast Go.Proofs.YtingjpcgehgiiaaW.PrintMore
set_option linter.unusedVariables false
set_option linter.unusedSimpArgs false
def bot0 (c : S24) : Int := c.f0 + (cnt 0 c.f2 : Int)
def bot1 (c : S24) : Int := c.f0 + (cnt 1 c.f2 : Int)
def botR (c : S24) : Int × Int × Int × Int := if Vc c then (valC c (bot0 c), bot0 c, bot1 c, 0) else (0, 0, 0, 2)
theorem bottom_ev (c : S24) : Ev (fun k => curve_Bottom.f k c.f0 c.f1 c.f2) (botR c) := by
  unfold curve_Bottom.f botR
  rw [valid_f c]
  by_cases h : Vc c
  · refine Ev.congr (fun k => (Option.bind_some _ _).trans (if_pos (decide_eq_true h))) ?_
    rw [if_pos h]
    refine Ev.bind (below_ev h 0) ?_
    rw [at_val h (cnt_in 0)]
    refine Ev.congr (fun k => Option.bind_some _ _) (Ev.bind (below_ev h 0) (Ev.bind (a := bot1 c) ?_ (Ev.now _)))
    unfold curve_walker_upto.f
    have e : wrap64 (0 + 1) = 1 := by unfold wrap64; omega
    rw [e]
    exact Ev.bind (below_ev h 1) (Ev.now _)
  · refine Ev.congr (f := fun _ => some _) (fun k => (Option.bind_some _ _).trans (if_neg (by rw [decide_eq_true_eq]; exact h))) ?_
    rw [if_neg h]
    exact Ev.now _
theorem bot_in (c : S24) : inC c (bot0 c) ∧ inC c (bot1 c) := ⟨cnt_in 0, cnt_in 1⟩
theorem bot_low {c : S24} (h : Vc c) {x : Int} (hx : inC c x) : valC c (bot0 c) ≤ valC c x := by
  have h1 := cnt_tight h 0
  have h2 := young 0 hx
  unfold bot0
  rw [Int.zero_mul] at h1 h2
  omega
theorem bot_same {c : S24} (h : Vc c) {x : Int} (hx : inC c x) (he : valC c x = valC c (bot0 c)) : bot0 c ≤ x ∧ x ≤ bot1 c := by
  have h1 := cnt_tight h 0
  unfold bot0 at he ⊢
  unfold bot1
  rw [Int.zero_mul] at h1
  obtain ⟨y1, y2⟩ := young_conv (p := 0) hx (by rw [Int.zero_mul]; omega)
  obtain ⟨x1, x2⟩ := hx
  have a := cnt_split 0 c.f2 (x - c.f0).toNat
  have b := cnt_split 1 c.f2 (x - c.f0).toNat
  rw [cnt_none y2] at a
  have a2 := cnt_le 0 (c.f2.take (x - c.f0).toNat)
  have b2 := cnt_all (p := 1) (l := c.f2.take (x - c.f0).toNat) (fun s hs => by have := y1 s hs; omega)
  rw [List.length_take] at a2 b2
  omega
theorem bot_last {c : S24} (h : Vc c) : valC c (bot1 c) = valC c (bot0 c) := by
  obtain ⟨_, _, _, _, _, hs, _⟩ := vc_parts h
  obtain ⟨c1, c2⟩ := cnt_parts hs 1
  have h1 := cnt_tight h 0
  have e : (c.f0 + (cnt 1 c.f2 : Int) - c.f0).toNat = cnt 1 c.f2 := by omega
  have h2 := young_eq (c := c) (x := bot1 c) (p := 0) (cnt_in 1) (by unfold bot1; rw [e]; exact fun s hs => by have := c1 s hs; omega) (by unfold bot1; rw [e]; exact fun s hs => by have := c2 s hs; omega)
  unfold bot0
  rw [Int.zero_mul] at h1 h2
  omega
theorem rb_l1_step {c : S24} (h : Vc c) (x7 x9 : Int) {x : Int} (h7 : inC c x7) (hx : inC c x) (k : Nat) : kimberliteref03_Bottom.l1 (k + 1) x7 x9 x c.f0 (outL c (c.f2.length + 1)) = kimberliteref03_Bottom.l1 k x7 (if valC c x = valC c x7 then x else x9) (x + 1) c.f0 (outL c (c.f2.length + 1)) := by
  have hb := in_bound h hx
  have e : wrap64 (x + 1) = x + 1 := by unfold wrap64; omega
  simp only [kimberliteref03_Bottom.l1]
  rw [row_to h, Option.bind_some, if_pos hx.2, row_value h hx, row_value h h7, Option.bind_some, Option.bind_some, e]
  split <;> rfl
theorem rb_l1 {c : S24} (h : Vc c) : ∀ (n : Nat) (x9 x : Int), x + (n : Int) = c.f0 + (c.f2.length : Int) + 1 → c.f0 ≤ x → valC c x9 = valC c (bot0 c) → inC c x9 → (∀ z, inC c z → z < x → valC c z = valC c (bot0 c) → z ≤ x9) →
    Ev (fun k => kimberliteref03_Bottom.l1 k (bot0 c) x9 x c.f0 (outL c (c.f2.length + 1))) (valC c (bot0 c), bot0 c, bot1 c, 0)
  | 0, x9, x, hn, hx, hv, hi, hall => by
    have e : x9 = bot1 c := by
      have h1 := bot_same h hi hv
      have h2 := hall (bot1 c) (bot_in c).2 (by have := (bot_in c).2.2; omega) (bot_last h)
      omega
    subst e
    refine Ev.step (f := fun _ => some (valC c (bot0 c), bot0 c, bot1 c, 0)) (fun k => ?_) (Ev.now _)
    simp only [kimberliteref03_Bottom.l1]
    rw [row_to h, Option.bind_some, if_neg (by omega), row_value h (bot_in c).1]
    rfl
  | n + 1, x9, x, hn, hx, hv, hi, hall => by
    have hin : inC c x := ⟨hx, by omega⟩
    refine Ev.step (rb_l1_step h (bot0 c) x9 (bot_in c).1 hin) (rb_l1 h n _ (x + 1) (by omega) (by omega) ?_ ?_ (fun z hz hlt he => ?_))
    · split
      · rename_i e; exact e
      · exact hv
    · split
      · exact hin
      · exact hi
    · by_cases e : z = x
      · subst e
        rw [if_pos he]
        exact Int.le_refl _
      · have := hall z hz (by omega) he
        split <;> omega
theorem rb_l0_step {c : S24} (h : Vc c) {x7 x : Int} (h7 : inC c x7) (hx : inC c x) (k : Nat) : kimberliteref03_Bottom.l0 (k + 1) x7 x c.f0 (outL c (c.f2.length + 1)) = kimberliteref03_Bottom.l0 k (if valC c x < valC c x7 then x else x7) (x + 1) c.f0 (outL c (c.f2.length + 1)) := by
  have hb := in_bound h hx
  have e : wrap64 (x + 1) = x + 1 := by unfold wrap64; omega
  simp only [kimberliteref03_Bottom.l0]
  rw [row_to h, Option.bind_some, if_pos hx.2, row_value h hx, row_value h h7, Option.bind_some, Option.bind_some, e]
  split <;> rfl
theorem rb_l0 {c : S24} (h : Vc c) : ∀ (n : Nat) (x7 x : Int), x + (n : Int) = c.f0 + (c.f2.length : Int) + 1 → c.f0 ≤ x → inC c x7 → (x7 < x ∨ x7 = x) → (∀ z, inC c z → z < x → valC c x7 ≤ valC c z ∧ (z < x7 → valC c x7 < valC c z)) →
    Ev (fun k => kimberliteref03_Bottom.l0 k x7 x c.f0 (outL c (c.f2.length + 1))) (valC c (bot0 c), bot0 c, bot1 c, 0)
  | 0, x7, x, hn, hx, hi, hor, hall => by
    have h0 := (bot_in c).1
    have e : x7 = bot0 c := by
      have h1 := hall (bot0 c) h0 (by have := h0.2; omega)
      have h2 := bot_low h hi
      have h3 := bot_same h hi (by omega)
      by_cases hl : bot0 c < x7
      · have := h1.2 hl; omega
      · omega
    subst e
    have hl1 := rb_l1 h (c.f2.length + 1) (bot0 c) c.f0 (by omega) (by omega) rfl h0 (fun z hz hlt he => by have := hz.1; omega)
    refine Ev.step (fun k => ?_) hl1
    simp only [kimberliteref03_Bottom.l0]
    rw [row_to h, Option.bind_some, if_neg (by omega)]
  | n + 1, x7, x, hn, hx, hi, hor, hall => by
    have hin : inC c x := ⟨hx, by omega⟩
    refine Ev.step (rb_l0_step h hi hin) (rb_l0 h n _ (x + 1) (by omega) (by omega) ?_ (by split <;> omega) (fun z hz hlt => ?_))
    · split
      · exact hin
      · exact hi
    · by_cases e : z = x
      · subst e
        split
        · exact ⟨Int.le_refl _, fun h => by omega⟩
        · exact ⟨by omega, fun h => by omega⟩
      · obtain ⟨q1, q2⟩ := hall z hz (by omega)
        split
        · exact ⟨by omega, fun h => by omega⟩
        · exact ⟨q1, q2⟩
theorem rbottom_ev (c : S24) : Ev (fun k => kimberliteref03_Bottom.f k c.f0 c.f1 c.f2) (botR c) := by
  unfold kimberliteref03_Bottom.f botR
  refine Ev.bind (rvalid_ev c) ?_
  by_cases h : Vc c
  · rw [decide_eq_true h, if_pos h]
    exact Ev.congr (fun k => if_pos rfl) (Ev.bind (out_ev h) (rb_l0 h (c.f2.length + 1) c.f0 c.f0 (by omega) (Int.le_refl _) ⟨Int.le_refl _, by omega⟩ (.inr rfl) (fun z hz hlt => by have := hz.1; omega)))
  · rw [decide_eq_false h, if_neg h]
    exact Ev.congr (f := fun _ => some _) (fun k => if_neg (by simp)) (Ev.now _)
theorem rgreat_ev {c : S24} (h : Vc c) {p : Int} (hp : -1073741824 ≤ p ∧ p ≤ 1073741824) : Ev (fun k => kimberliteref03_Greatest.f k c.f0 (outL c (c.f2.length + 1)) p) (gC c p) := by
  have hin : inC c c.f0 := ⟨by omega, by omega⟩
  have e1 : rd (outL c (c.f2.length + 1)) 0 = valC c c.f0 := by
    have := outL_rd c (c.f2.length + 1) 0 (by omega)
    rw [show c.f0 + ((0 : Nat) : Int) = c.f0 by omega] at this
    exact this
  refine Ev.congr (fun k => ?_) (greatest_loop h hp (c.f2.length + 1) c.f0 (p * c.f0 - valC c c.f0) (by omega) (by omega) (young p hin) ?_)
  · unfold kimberliteref03_Greatest.f
    rw [outL_len, if_pos (by omega), e1, term_w h hin hp]
  · obtain ⟨y, y1, y2⟩ := gC_at h p
    exact .inr ⟨y, y1.1, y1, y2⟩
theorem thr_conC (c : S24) (lo : Int) (n : Nat) : thrC lo (conV c lo (n + 1)) = conC c lo n := by
  unfold thrC conC
  have z := conV_rd c lo (n + 1) 0 (by omega)
  rw [show lo + ((0 : Nat) : Int) = lo by omega] at z
  have z' : rd (conV c lo (n + 1)) 0 = gC c lo := z
  rw [z', conV_len]
  rfl
theorem rconj_loop {c : S24} (h : Vc c) {lo hi : Int} (hlo : -1048576 ≤ lo) (hhi : hi ≤ 1048576) (hn : hi ≤ lo + 64) (hle : lo ≤ hi) : ∀ n i : Nat, lo + (i : Int) + (n : Int) = hi + 1 →
    Ev (fun k => kimberliteref03_Conj.l0 k hi (lo + (i : Int)) c.f0 (outL c (c.f2.length + 1)) lo (conV c lo i)) (if Vc (conC c lo (hi - lo).toNat) then ((conC c lo (hi - lo).toNat).f0, (conC c lo (hi - lo).toNat).f1, (conC c lo (hi - lo).toNat).f2, 0) else (0, 0, [], 4))
  | 0, i, hi' => by
    have ei : i = (hi - lo).toNat + 1 := by omega
    have gb : ∀ j : Nat, j < i → -2252899392421889 ≤ rd (conV c lo i) (j : Int) ∧ rd (conV c lo i) (j : Int) ≤ 2252899392421889 := fun j hj => by
      rw [conV_rd c lo i j hj]
      exact gC_bound h (by omega)
    have ht := ranged_ev lo (conV c lo i) (by rw [conV_len]; omega) (by rw [conV_len]; omega) (fun j hj => by
      rw [conV_len] at hj
      have a1 := gb j (by omega)
      have a2 := gb (j + 1) (by omega)
      omega)
    have ec : thrC lo (conV c lo i) = conC c lo (hi - lo).toNat := by rw [ei]; exact thr_conC c lo _
    rw [ec] at ht
    refine Ev.step (f := fun k => (kimberliteref03_ranged.f k lo (conV c lo i)).bind fun bt378 => some (bt378.1, bt378.2.1, bt378.2.2.1, bt378.2.2.2)) (fun k => ?_) (Ev.bind ht (Ev.now _))
    simp only [kimberliteref03_Conj.l0]
    rw [if_neg (by omega)]
  | n + 1, i, hi' => by
    have ih := rconj_loop h hlo hhi hn hle n (i + 1) (by omega)
    have ew : wrap64 (lo + (i : Int) + 1) = lo + ((i + 1 : Nat) : Int) := by clear ih; unfold wrap64; omega
    rw [conV_succ] at ih
    refine Ev.step (f := fun k => (kimberliteref03_Greatest.f k c.f0 (outL c (c.f2.length + 1)) (lo + (i : Int))).bind fun t374 => kimberliteref03_Conj.l0 k hi (lo + ((i + 1 : Nat) : Int)) c.f0 (outL c (c.f2.length + 1)) lo (conV c lo i ++ [t374])) (fun k => ?_) (Ev.bind (rgreat_ev h (by clear ih ew; omega)) ih)
    simp only [kimberliteref03_Conj.l0]
    have q : (conV c lo i).length < 17592186044416 := by rw [conV_len]; clear ih ew; omega
    rw [if_pos (by clear ih ew; omega), ew]
    simp only [if_pos q]
theorem rconj_ev (c : S24) (lo hi : Int) : Ev (fun k => kimberliteref03_Conj.f k c.f0 c.f1 c.f2 lo hi) (conR c lo hi) := by
  have bad : ¬conOk c lo hi → Ev (fun k => kimberliteref03_Conj.j0 k lo hi true c.f0 c.f1 c.f2) (conR c lo hi) := fun hn => by
    unfold conR
    rw [if_neg hn]
    exact Ev.step (f := fun _ => some (0, 0, [], 2)) (fun k => by simp only [kimberliteref03_Conj.j0]; rw [if_pos trivial]) (Ev.now _)
  unfold kimberliteref03_Conj.f
  refine Ev.bind (rvalid_ev c) ?_
  by_cases h : Vc c
  · rw [decide_eq_true h]
    refine Ev.congr (fun k => if_pos rfl) ?_
    by_cases h1 : lo < -1048576
    · exact Ev.congr (fun k => if_pos h1) (bad (fun e => by have := e.2.1; omega))
    refine Ev.congr (fun k => if_neg h1) ?_
    by_cases h2 : lo > 1048576
    · exact Ev.congr (fun k => if_pos h2) (bad (fun e => by have := e.2.2.1; have := e.2.2.2.2; omega))
    refine Ev.congr (fun k => if_neg h2) ?_
    by_cases h3 : hi < lo
    · exact Ev.congr (fun k => if_pos h3) (bad (fun e => by have := e.2.2.1; omega))
    refine Ev.congr (fun k => if_neg h3) ?_
    by_cases h4 : hi > 1048576
    · exact Ev.congr (fun k => if_pos h4) (bad (fun e => by have := e.2.2.2.2; omega))
    refine Ev.congr (fun k => if_neg h4) ?_
    have ew : wrap64 (lo + 64) = lo + 64 := by unfold wrap64; omega
    rw [ew]
    by_cases h5 : hi > lo + 64
    · rw [decide_eq_true h5]
      exact bad (fun e => by have := e.2.2.2.1; omega)
    · rw [decide_eq_false h5]
      have ok : conOk c lo hi := ⟨h, by omega, by omega, by omega, by omega⟩
      have hl := rconj_loop h (lo := lo) (hi := hi) (by omega) (by omega) (by omega) (by omega) (hi - lo + 1).toNat 0 (by omega)
      unfold conR
      rw [if_pos ok]
      refine Ev.step (f := fun k => (kimberliteref03_Out.f k c.f0 c.f1 c.f2).bind fun bt368 => kimberliteref03_Conj.l0 k hi lo bt368.1 bt368.2 lo []) (fun k => by simp only [kimberliteref03_Conj.j0]; rw [if_neg (by simp)]) (Ev.bind (out_ev h) ?_)
      rw [show lo + ((0 : Nat) : Int) = lo by omega] at hl
      exact hl
  · rw [decide_eq_false h]
    exact Ev.congr (fun k => if_neg (by simp)) (bad (fun e => h e.1))
theorem conR_len (c : S24) (lo hi : Int) : (conR c lo hi).2.2.1.length ≤ 64 := by
  unfold conR
  by_cases h : conOk c lo hi
  · rw [if_pos h]
    by_cases hv : Vc (conC c lo (hi - lo).toNat)
    · rw [if_pos hv]
      exact (vc_parts hv).2.2.2.2.1
    · rw [if_neg hv]; simp
  · rw [if_neg h]; simp
theorem CurveBottoms_pure (c : S24) (lo hi : Int) : ∃ k, kimberlitelaw03_CurveBottoms.f k c.f0 c.f1 c.f2 lo hi = some true := by
  refine Ev.rounds ?_
  unfold kimberlitelaw03_CurveBottoms.f kimberlitelaw03_few.f
  refine Ev.congr (fun k => Option.bind_some _ _) ?_
  by_cases hf : (c.f2.length : Int) ≤ 100
  · rw [decide_eq_true hf]
    refine Ev.congr (fun k => if_pos rfl) (Ev.bind (own_ev c (by omega)) (Ev.bind (bottom_ev c) (Ev.bind (rbottom_ev c) (Ev.congr (fun k => if_pos rfl) (Ev.congr (fun k => if_pos rfl) (Ev.congr (fun k => if_pos rfl) ?_))))))
    simp only
    rw [show ((botR c).2.2.2 != (botR c).2.2.2) = false by simp]
    obtain ⟨r, hr⟩ := told_ev (conR c lo hi).1 (conR c lo hi).2.1 (conR c lo hi).2.2.1 (conR c lo hi).2.2.2 (Nat.le_trans (conR_len c lo hi) (by decide))
    refine Ev.step (fun k => by simp only [kimberlitelaw03_CurveBottoms.j0]; rw [if_neg (by simp)]) (Ev.bind (Conj_ev c lo hi) (Ev.bind (rconj_ev c lo hi) (Ev.bind hr (Ev.congr (fun k => if_pos rfl) (Ev.bind (alike_ev c.f0 c.f1 c.f2 (by omega)) (Ev.congr (f := fun _ => some true) (fun k => if_pos rfl) (Ev.now _)))))))
  · rw [decide_eq_false hf]
    exact Ev.congr (f := fun _ => some true) (fun k => if_neg (by simp)) (Ev.now _)
theorem CurveBottoms_walk {W : World} (x0 : S24) (a0 : Option Addr) (cap0 : Nat) (c0 : x0.f2.length ≤ cap0) (hr0 : Kd.C (Kd.int .i64) W a0 x0.f2.length x0.f2) (w0 : okC x0) (a1 : Int) (b1 : (Lit.int .i64 a1).wf = true) (a2 : Int) (b2 : (Lit.int .i64 a2).wf = true) :
    Calls Try.prog 9 #[.agg #[.int .i64 x0.f0, .int .i64 x0.f1, .slice a0 x0.f2.length cap0], .int .i64 a1, .int .i64 a2] W fun e w' => e = .returned (.bool true) ∧ Below W.heap.size W w' := by
  obtain ⟨k, h⟩ := CurveBottoms_pure x0 a1 a2
  exact kimberlitelaw03_CurveBottoms.calls k _ _ _ _ x0.f2 a1 a2 true W hr0 c0 h
end Go.Proofs.Ytingjpcgehgiiaa.Pr
end
section
namespace Go.Proofs.Ytingjpcgehgiiaa.curveBottoms
open Go.ChangeShapes Go.WideShapes Go.ChangeAt Go.RowKit Go.Proofs.Ytingjpcgehgiiaa.Pr
set_option linter.unusedVariables false
theorem own : ownKnob Try.prog.godebug = none := by kernel_rfl
theorem laidOut : laidOutB Try.prog = true := by kernel_rfl
set_option maxRecDepth 100000 in
theorem lifted (os : Os) (started : os.Started) (H : Type) (enc : TypeId × Value → H) :
    ReturnsInHanded {} Try.checked os 9 .any (Rows.curveBottomsSpec.pre6 enc Try.prog Try.f9 Rows.curveBottomsRow.domain false) (Rows.curveBottomsSpec.post enc Try.prog Try.f9 false true false false) := by
  refine returnsInHanded_of_change (C := Try.checked) own started (by kernel_rfl) Try.func9
    (ChangeSpec.witness6 (enc := enc) (C := Try.checked) false ⟨#[], #[.agg #[.int .i64 0, .int .i64 0, .slice none 0 0], .int .i64 0, .int .i64 0], []⟩ 8 (by kernel_rfl) (by kernel_rfl) (by kernel_rfl) (by kernel_rfl)) ?_
  intro W base args ds gs before hval0 hW hcnd _
  have hval : ∀ (j : Nat) t v, Try.f9.params[j]? = some t → args[j]? = some v → Value.okWide Try.prog W .any base t v := hval0
  have hW' := hW
  obtain ⟨p, q, hA0, hV, rfl, hfz, hnd⟩ := hW
  have hA : DataW.TrodAll enc Try.prog W 0 (fun _ => true) true Try.f9.params.toList args.toList ds p := hA0
  rw [Try.params9] at hA hval
  obtain ⟨v0, vs0, d0, ds0, p0, q0, hargs, rfl, rfl, h0, r0⟩ := trodAll_cons hA
  obtain ⟨v1, vs1, d1, ds1, p1, q1, rfl, rfl, rfl, h1, r1⟩ := trodAll_cons r0
  obtain ⟨v2, vs2, d2, ds2, p2, q2, rfl, rfl, rfl, h2, r2⟩ := trodAll_cons r1
  obtain ⟨rfl, rfl, rfl⟩ := trodAll_nil r2
  obtain rfl : args = #[v0, v1, v2] := by cases args; simp_all
  obtain ⟨rfl, rfl⟩ := trodVars_none hV
  have k0 := h0
  have lt0 : ∀ x ∈ p0, x.block < W.heap.size := by obtain ⟨m, hm⟩ := k0; exact DataW.trod_lt m _ _ _ hm
  obtain ⟨x0, a0, cap0, rfl, c0, hr0, w0⟩ := open_curve (hval 0 24 v0 rfl rfl) h0
  obtain ⟨a1, rfl, rfl, rfl, w1⟩ := open_int Try.underlying3 (hval 1 3 v1 rfl rfl) h1
  obtain ⟨a2, rfl, rfl, rfl, w2⟩ := open_int Try.underlying3 (hval 2 3 v2 rfl rfl) h2
  clear hA0 hval0
  try simp only [List.append_nil] at hW'
  refine (CurveBottoms_walk x0 a0 cap0 c0 hr0 w0 a1 w1 a2 w2).mono fun e W' ⟨he, bel⟩ => ?_
  subst he
  exact ⟨_, rfl, _, _, _, [], _, [], hW', trodAll_mk1 (shut_bool Try.underlying4 _), (trodAll_cons_mk (Below.trod laidOut (by kernel_rfl) (of_decide_eq_true (by kernel_rfl)) k0 bel lt0) (trodAll_cons_mk (shut_int Try.underlying3 w1) (trodAll_cons_mk (shut_int Try.underlying3 w2) trodAll_mk0))), rfl, bel.frame _, fun h => by cases h⟩
theorem over : Rows.curveBottomsRow.holds Try.pinned (OpenSpec.ofChange Rows.curveBottomsSpec) :=
  OpenClaim.holds_of_wide 9 Try.f9 rfl rfl rfl rfl rfl rfl rfl ⟨rfl, rfl, rfl, rfl, rfl⟩ rfl rfl rfl rfl rfl (by kernel_rfl) Try.func9 (by kernel_rfl)
    (of_decide_eq_true (by kernel_rfl)) (by unfold Func.isWrapper; first | (rw [if_pos (by decide +kernel)]; kernel_rfl) | (rw [if_neg (by decide +kernel)]; exact ⟨rfl, rfl⟩))
    (fun os started H enc _ => lifted os started H enc)
theorem proved : Rows.CurveBottomsSaid := over
end Go.Proofs.Ytingjpcgehgiiaa.curveBottoms
namespace Go.Proofs.Ytingjpcgehgiiaa
/-- The row, under a short name, for the claim. -/
theorem curveBottoms_holds : Rows.CurveBottomsSaid := curveBottoms.proved
end Go.Proofs.Ytingjpcgehgiiaa
end
