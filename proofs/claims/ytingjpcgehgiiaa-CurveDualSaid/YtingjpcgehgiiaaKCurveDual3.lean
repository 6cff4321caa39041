/- What the proof of the law needs, trimmed and merged by wip/pack.py out of the texts YtingjpcgehgiiaaExtJoin, YtingjpcgehgiiaaJnp, YtingjpcgehgiiaaCon, YtingjpcgehgiiaaExtClone, YtingjpcgehgiiaaPrx22, YtingjpcgehgiiaaAdp, YtingjpcgehgiiaaSam, YtingjpcgehgiiaaArgs, YtingjpcgehgiiaaExtSplit, YtingjpcgehgiiaaLit, YtingjpcgehgiiaaExtAlive, YtingjpcgehgiiaaSlm. No condition. -/
import Derived.Lib.SliceRun
import Derived.Deep.Slices
import Derived.Deep.Fields
import Derived.ChangeSame
import Derived.Lib.SmallJoins
import Derived.OpenShut
import Derived.Test.YtingjpcgehgiiaaKCurveDual0
import Derived.Test.YtingjpcgehgiiaaKCurveDual1
import Derived.Test.YtingjpcgehgiiaaKCurveDual2
section
namespace Go.Proofs.Ytingjpcgehgiiaa.Pr
open Go.RowKit Go.Shelf Go.Proofs.YtingjpcgehgiiaaW.PrintWords Go.Proofs.YtingjpcgehgiiaaW.PrintLast Go.Proofs.YtingjpcgehgiiaaW.PrintMore
set_option linter.unusedVariables false
set_option linter.unusedSimpArgs false
/-- A slice of a call's own with no numbers, and room for n. -/
theorem grow_nil (n : Nat) (w : World) (hn : n ≤ 1000000) : Calls Try.prog 79 #[.slice none 0 0, .int .i64 n] w fun e w' => ∃ v, e = .returned v ∧ Kd.R (Kd.int .i64) 3 w' w.heap.size (fun _ => True) v [] ∧ Below w.heap.size w w' := by
  rcases Nat.eq_zero_or_pos n with rfl | h0
  · refine (Try.slices_Grow_room none 0 0 0 w (by omega) (by omega) (by omega) (by omega)).mono ?_
    rintro e w' ⟨rfl, rfl⟩
    exact ⟨_, rfl, Kd.R_nil _ _ _ _ _, Below.refl _ _⟩
  · obtain ⟨i0, hi, hz, hs, hb⟩ := info_parts info3
    refine (Try.slices_Grow_nil i0 (.int .i64 0) hi hz (by omega) n w (by omega) (by rw [hb]; omega) (by omega)).mono ?_
    rintro e w' ⟨rfl, rfl⟩
    have hge := grownCap_ge w (0 + n) 0 3
    have hle := grownCap_le_maxLen w (0 + n) 0 3 (by unfold maxLen; omega)
    generalize grownCap w (0 + n) 0 3 = G at hge hle ⊢
    refine ⟨_, rfl, ⟨fun _ _ => trivial, [], ⟨rfl, .inr ⟨w.heap.size, G, _, rfl, Nat.le_refl _, blk_new w.drew _, Nat.zero_le _, hle, ?_, rfl⟩⟩, Reps.none _ _⟩, ?_⟩
    · simp [size_zeroCells, Value.cells]
      change n + (G - n) = G * 1
      omega
    · exact below_alloc (below_drew1 (Below.refl _ _)) _
set_option maxHeartbeats 4000000 in
set_option maxRecDepth 100000 in
/-- slices.Concat of two lists. -/
theorem concat_two (gb : Nat) (A1 A2 : Option Addr) (c1 c2 : Nat) (l m : List Int) (w : World) (hg : w.heap[gb]? = some (.cells #[.slice A1 l.length c1, .slice A2 m.length c2] 22 (0, 0))) (hr1 : Kd.C (Kd.int .i64) w A1 l.length l) (hr2 : Kd.C (Kd.int .i64) w A2 m.length m) (hl : l.length ≤ 1000) (hm : m.length ≤ 1000) :
    Calls Try.prog 49 #[.slice (some ⟨gb, 0, none⟩) 2 2] w fun e w' => ∃ v, e = .returned v ∧ Kd.R (Kd.int .i64) 3 w' w.heap.size (fun _ => True) v (l ++ m) ∧ Below w.heap.size w w' := by
  have HR1 := Aside0.mk hr1
  have HR2 := Aside0.mk hr2
  have HG := Aside0.mk hg
  have hz0 : w.cell? ⟨gb, 0, none⟩ = some (.slice A1 l.length c1) := (blk_cell hg 0).trans rfl
  have hz1 : w.cell? ⟨gb, 1, none⟩ = some (.slice A2 m.length c2) := (blk_cell hg 1).trans rfl
  have ZZ0 := Aside0.mk hz0
  have ZZ1 := Aside0.mk hz1
  clear hr1 hr2 hg
  go_enter Try.func49, Try.ntmps49
  go_wp2
  go_loopg [3, 11] 2 (fun gg v3 v11 wr => ∃ kk : Nat, kk ≤ 2 ∧ 2 - kk ≤ gg ∧ v3 = .int .i64 (if kk = 0 then 0 else if kk = 1 then (l.length : Int) else ((l.length + m.length : Nat) : Int)) ∧ v11 = .int .i64 kk ∧ w = wr)
  case atStart => exact ⟨0, by omega, by omega, rfl, rfl, rfl⟩
  case round =>
    obtain ⟨kk, hkk, hg, rfl, rfl, rfl⟩ := hrel
    rcases (by omega : kk = 0 ∨ kk = 1 ∨ kk = 2) with rfl | rfl | rfl
    · go_wp2
      go_roundg 1
      case measure => omega
      case rel => exact ⟨1, by omega, by omega, rfl, rfl, rfl⟩
    · have hw : IntKind.i64.wrap ((l.length : Int) + (m.length : Int)) = (l.length : Int) + (m.length : Int) := by rw [i64_w]; unfold wrap64; omega
      have hn : ¬ (l.length : Int) + (m.length : Int) < 0 := by omega
      go_wp2
      go_roundg 0
      case measure => omega
      case rel => exact ⟨2, by omega, by omega, by first | rfl | simp, rfl, rfl⟩
    · have hG := Aside0.mk (grow_nil (l.length + m.length) w (by omega))
      go_wp2_with (go_at_call 79; refine hG.out.mono ?_; rintro e w1 ⟨v1, rfl, ho1, hb1⟩; obtain ⟨A3, c3, e3⟩ := Kd.R_slice ho1; subst e3; have hy0 := (hb1.cell (p := ⟨gb, 0, none⟩) (World.block_lt_of_cell? _ _ hz0)).trans hz0; have hy1 := (hb1.cell (p := ⟨gb, 1, none⟩) (World.block_lt_of_cell? _ _ hz1)).trans hz1; clear hz0 hz1)
      have HO1 := Aside0.mk ho1
      have HB1 := Aside0.mk hb1
      clear ho1 hb1 hg hkk
      clear hy0 hy1
      go_loopg [6, 27] 2 (fun gg v6 v27 wr => ∃ kk : Nat, kk ≤ 2 ∧ 2 - kk ≤ gg ∧ v27 = .int .i64 kk ∧ Aside0 (Kd.R (Kd.int .i64) 3 wr w.heap.size (fun _ => True) v6 (if kk = 0 then [] else if kk = 1 then l else l ++ m)) ∧ Aside0 (Below w.heap.size w wr))
      case atStart => exact ⟨0, by omega, by omega, rfl, HO1, HB1⟩
      case round =>
        obtain ⟨kk, hkk, hg, rfl, HO, HB⟩ := hrel
        have hy0 := (HB.out.cell (p := ⟨gb, 0, none⟩) (World.block_lt_of_cell? _ _ ZZ0.out)).trans ZZ0.out
        have hy1 := (HB.out.cell (p := ⟨gb, 1, none⟩) (World.block_lt_of_cell? _ _ ZZ1.out)).trans ZZ1.out
        rcases (by omega : kk = 0 ∨ kk = 1 ∨ kk = 2) with rfl | rfl | rfl
        · obtain ⟨A5, c5, e5⟩ := Kd.R_slice HO.out
          subst e5
          go_wp2_with (at_builtin; refine Kd.R_append_rows (Kd.int .i64) (Rr := (Kd.int .i64).K w) (w0 := w) w.heap.size rfl (.tmp 31) (.tmp 32) 22 3 (.int .i64 0) 8 rfl Try.underlying22 info3 rfl (by decide) (by omega) _ ([]) l A1 l.length c1 (fun _ => True) (fun _ => False) rfl rfl HO.out ?aR ?aK (fun _ hk => hk.elim) (fun _ _ => trivial) HB.out HB.out.size ?aL ?_; (case aR => exact (Kd.C_below HR1.out HB.out)); (case aK => (intro x cs hx; exact hx)); (case aL => (first | omega | (simp; omega))); intro v2 w2 ho2 hb2 hg2 hn2; clear hg2 hn2; obtain ⟨A4, c4, e4⟩ := Kd.R_slice ho2; subst e4)
          go_roundg 1
          case measure => omega
          case rel => exact ⟨1, by omega, by omega, rfl, ⟨ho2⟩, ⟨hb2⟩⟩
        · obtain ⟨A5, c5, e5⟩ := Kd.R_slice HO.out
          subst e5
          go_wp2_with (at_builtin; refine Kd.R_append_rows (Kd.int .i64) (Rr := (Kd.int .i64).K w) (w0 := w) w.heap.size rfl (.tmp 31) (.tmp 32) 22 3 (.int .i64 0) 8 rfl Try.underlying22 info3 rfl (by decide) (by omega) _ (l) m A2 m.length c2 (fun _ => True) (fun _ => False) rfl rfl HO.out ?aR ?aK (fun _ hk => hk.elim) (fun _ _ => trivial) HB.out HB.out.size ?aL ?_; (case aR => exact (Kd.C_below HR2.out HB.out)); (case aK => (intro x cs hx; exact hx)); (case aL => (first | omega | (simp; omega))); intro v2 w2 ho2 hb2 hg2 hn2; clear hg2 hn2; obtain ⟨A4, c4, e4⟩ := Kd.R_slice ho2; subst e4)
          go_roundg 0
          case measure => omega
          case rel => exact ⟨2, by omega, by omega, rfl, ⟨by have h := ho2; rw [List.length_append] at h; exact h⟩, ⟨hb2⟩⟩
        · obtain ⟨A5, c5, e5⟩ := Kd.R_slice HO.out
          subst e5
          go_wp2
          go_ret
          exact ⟨_, rfl, HO.out, HB.out⟩
def sortL (l : List Int) : List Int := l.mergeSort fun x y => decide (x ≤ y)
theorem sortL_len (l : List Int) : (sortL l).length = l.length := List.length_mergeSort _
/-- slices.Sort of a row of the call's own. -/
theorem sort_own (v : Value) (l : List Int) (base : Nat) (w : World) (h : Kd.R (Kd.int .i64) 3 w base (fun _ => True) v l) (hl : l.length ≤ 1000000) :
    Calls Try.prog 50 #[v] w fun e w' => e = .returned (.tuple #[]) ∧ Kd.R (Kd.int .i64) 3 w' base (fun _ => True) v (sortL l) ∧ w.grownBy w' v.ownBlock := by
  have hr : RowI w base v l := Kd.own_of_R h
  rcases l with _ | ⟨x, t⟩
  · obtain ⟨A, c, rfl⟩ := Kd.R_slice h
    refine (Try.slices_Sort_int_none A c w).mono ?_
    rintro e w' ⟨rfl, rfl⟩
    have e0 : sortL [] = [] := by simp [sortL]
    rw [e0]
    exact ⟨rfl, h, grown_of_below (Below.refl _ _) _⟩
  · obtain ⟨g, c, cur, rfl, g1, g2, g3, g4, g5, g6⟩ := row_some hr (by simp)
    have glt := (Array.getElem?_eq_some_iff.1 g2).1
    refine (Try.slices_Sort_int g 0 c (x :: t) w (row_holds g2 g6) glt (by omega)).mono ?_
    rintro e w' ⟨rfl, m, os, rfl⟩
    obtain ⟨r1, r2⟩ := row_put m os g1 g2 g3 g4 g5 (sortL_len (x :: t)) (x :: t).length (Nat.le_refl _)
    rw [List.take_of_length_le (by rw [sortL_len]; exact Nat.le_refl _)] at r1
    exact ⟨rfl, Kd.R_of_own r1 (fun _ _ => trivial), r2⟩
/-- A curve is stored into a result's block of its own. -/
theorem store_curve {w W : World} {g : Nat} {a b c v : Value} {x y : Int} {l : List Int} (HB : Below w.heap.size w W) (GE : w.heap.size ≤ g) (BK : W.heap[g]? = some (.cells #[a, b, c] 24 (0, 0))) (hR : Kd.R (Kd.int .i64) 3 W w.heap.size (fun k => k ≠ g) v l) :
    (((W.setCell ⟨g, 0, none⟩ (.int .i64 x)).setCell ⟨g, 1, none⟩ (.int .i64 y)).setCell ⟨g, 2, none⟩ v).heap[g]? = some (.cells #[.int .i64 x, .int .i64 y, v] 24 (0, 0)) ∧
    Kd.R (Kd.int .i64) 3 (((W.setCell ⟨g, 0, none⟩ (.int .i64 x)).setCell ⟨g, 1, none⟩ (.int .i64 y)).setCell ⟨g, 2, none⟩ v) w.heap.size (fun _ => True) v l ∧
    Below w.heap.size w (((W.setCell ⟨g, 0, none⟩ (.int .i64 x)).setCell ⟨g, 1, none⟩ (.int .i64 y)).setCell ⟨g, 2, none⟩ v) :=
  ⟨blk_put (blk_put (blk_put BK 0 _ rfl) 1 _ rfl) 2 _ rfl,
   Kd.R_mono (Kd.R_far (p := ⟨g, 2, none⟩) (Kd.R_far (p := ⟨g, 1, none⟩) (Kd.R_far (p := ⟨g, 0, none⟩) hR (fun _ hk => hk) _) (fun _ hk => hk) _) (fun _ hk => hk) _) (fun _ _ => trivial),
   below_set (below_set (below_set HB GE) GE) GE⟩
theorem blk_sort {w w' : World} {g : Nat} {cs : Array Value} {base : Nat} {v : Value} {l : List Int} (BK : w.heap[g]? = some (.cells cs 24 (0, 0))) (hR : Kd.R (Kd.int .i64) 3 w base (fun _ => True) v l) (hg : w.grownBy w' v.ownBlock) : w'.heap[g]? = some (.cells cs 24 (0, 0)) := by
  refine (hg.block g (Array.getElem?_eq_some_iff.1 BK).1 (fun e => ?_)).trans BK
  obtain ⟨cells, hc⟩ := own_typed hR.2.choose_spec.1 g e.symm
  rw [BK] at hc
  cases hc
def joinR (a0 a1 : Int) (l : List Int) (b0 b1 : Int) (m : List Int) : Int × Int × List Int × Int :=
  if (validC a0 a1 l && validC b0 b1 m) = true then
    (if validC (wrap64 (a0 + b0)) (wrap64 (a1 + b1)) (sortL (l ++ m)) = true then (wrap64 (a0 + b0), wrap64 (a1 + b1), sortL (l ++ m), 0) else (0, 0, [], 4))
  else (0, 0, [], 2)
def curve_Join.f (a0_0 a0_1 : Int) (l0_2 : List Int) (a1_0 a1_1 : Int) (l1_2 : List Int) : Option (Int × Int × List Int × Int) := some (joinR a0_0 a0_1 l0_2 a1_0 a1_1 l1_2)
theorem validC_len {a0 a1 : Int} {l : List Int} (h : validC a0 a1 l = true) : l.length ≤ 64 := by
  unfold validC at h
  simp only [Bool.and_eq_true, decide_eq_true_eq] at h
  exact h.2.2.1
set_option maxHeartbeats 8000000 in
set_option maxRecDepth 100000 in
theorem curve_Join.calls (a0_0 a0_1 : Int) (A0_2 : Option Addr) (c0_2 : Nat) (l0_2 : List Int) (a1_0 a1_1 : Int) (A1_2 : Option Addr) (c1_2 : Nat) (l1_2 : List Int) (r1 r2 : Int) (r3 : List Int) (r4 : Int) (w : World) (hr0_2 : Kd.C (Kd.int .i64) w A0_2 l0_2.length l0_2) (hc0_2 : l0_2.length ≤ c0_2) (hr1_2 : Kd.C (Kd.int .i64) w A1_2 l1_2.length l1_2) (hc1_2 : l1_2.length ≤ c1_2) (h : curve_Join.f a0_0 a0_1 l0_2 a1_0 a1_1 l1_2 = some (r1, r2, r3, r4)) :
    Calls Try.prog 14 #[.agg #[.int .i64 a0_0, .int .i64 a0_1, .slice A0_2 l0_2.length c0_2], .agg #[.int .i64 a1_0, .int .i64 a1_1, .slice A1_2 l1_2.length c1_2]] w fun e w' => ∃ v_ : Value, e = .returned (.tuple #[.agg #[.int .i64 r1, .int .i64 r2, v_], .int .i64 r4]) ∧ Kd.R (Kd.int .i64) 3 w' w.heap.size (fun _ => True) v_ r3 ∧ Below w.heap.size w w' := by
  have hj : joinR a0_0 a0_1 l0_2 a1_0 a1_1 l1_2 = (r1, r2, r3, r4) := Option.some.inj h
  have HR0 := Aside0.mk hr0_2
  have HR1 := Aside0.mk hr1_2
  have HC0 := Aside0.mk hc0_2
  have HC1 := Aside0.mk hc1_2
  unfold joinR at hj
  have V0 := Aside0.mk (show curve_Valid.f a0_0 a0_1 l0_2 = some (validC a0_0 a0_1 l0_2) from rfl)
  have V1 := Aside0.mk (show curve_Valid.f a1_0 a1_1 l1_2 = some (validC a1_0 a1_1 l1_2) from rfl)
  have L0 := Aside0.mk (fun h => @validC_len a0_0 a0_1 l0_2 h)
  have L1 := Aside0.mk (fun h => @validC_len a1_0 a1_1 l1_2 h)
  obtain ⟨ll, hll⟩ : ∃ ll, ll = l0_2 ++ l1_2 := ⟨_, rfl⟩
  rw [← hll] at hj
  have HLL := Aside0.mk hll
  have HJ := Aside0.mk hj
  clear hll
  clear h hj hr0_2 hr1_2 hc0_2 hc1_2
  generalize validC a0_0 a0_1 l0_2 = b0 at V0 L0 HJ
  generalize validC a1_0 a1_1 l1_2 = b1 at V1 L1 HJ
  go_enter Try.func14, Try.ntmps14
  go_wp2_with (first | ((with_reducible refine gate_dst (N := 2) rfl ?_); refine box_event ?hg (N := 2) ?hd (cs := #[.int .i64 a0_0, .int .i64 a0_1, .slice A0_2 l0_2.length c0_2]) (t := 24) ?hr ?_; (case hd => rfl); (case hg => rfl); (case hr => first | (go_simp; done) | (go_simp; rfl)); intro g2 hg w1 hbox hb; have HB1 := Aside0.mk hb; have BKa1 := Aside0.mk hbox; clear hb hg hbox) | ((with_reducible refine gate_dst (N := 3) rfl ?_); refine box_event ?hg (N := 3) ?hd (cs := #[.int .i64 a1_0, .int .i64 a1_1, .slice A1_2 l1_2.length c1_2]) (t := 24) ?hr ?_; (case hd => rfl); (case hg => rfl); (case hr => first | (go_simp; done) | (go_simp; rfl)); intro g3 hg w2 hbox hb; have HB2 := Aside0.mk (below_then HB1.out HB1.out.size hb); have BKa2 := Aside0.mk (blk_below BKa1.out hb); have BKb2 := Aside0.mk hbox; clear hb hg hbox HB1 BKa1) | ((with_reducible refine gate_dst (N := 4) rfl ?_); refine box_event ?hg (N := 4) ?hd (cs := #[.int .i64 0, .int .i64 0, .slice none 0 0]) (t := 24) ?hr ?_; (case hd => rfl); (case hg => rfl); (case hr => first | (go_simp; done) | (go_simp; rfl)); intro g4 hg w3 hbox hb; have HB3 := Aside0.mk (below_then HB2.out HB2.out.size hb); have BKa3 := Aside0.mk (blk_below BKa2.out hb); have BKb3 := Aside0.mk (blk_below BKb2.out hb); have BKc3 := Aside0.mk hbox; have GE := Aside0.mk (show w.heap.size ≤ g4 by rw [hg]; exact HB2.out.size); clear hb hg hbox HB2 BKa2 BKb2; have hx0 : w3.cell? ⟨g2, 0, none⟩ = some (.int .i64 a0_0) := (blk_cell BKa3.out 0).trans rfl; have hx1 : w3.cell? ⟨g2, 1, none⟩ = some (.int .i64 a0_1) := (blk_cell BKa3.out 1).trans rfl; have hx2 : w3.cell? ⟨g2, 2, none⟩ = some (.slice A0_2 l0_2.length c0_2) := (blk_cell BKa3.out 2).trans rfl))
  go_wp2_with (go_at_call 16; (with_reducible refine (curve_Valid.calls a0_0 a0_1 _ _ l0_2 _ _ (Kd.C_below HR0.out HB3.out) HC0.out V0.out).mono ?_); rintro e w4 ⟨rfl, hb4⟩; have HB4 := Aside0.mk (below_then HB3.out HB3.out.size hb4); have BKa4 := Aside0.mk (blk_below BKa3.out hb4); have BKb4 := Aside0.mk (blk_below BKb3.out hb4); have BKc4 := Aside0.mk (blk_below BKc3.out hb4); clear hb4 HB3 BKa3 BKb3 BKc3 hx0 hx1 hx2; have hy0 : w4.cell? ⟨g3, 0, none⟩ = some (.int .i64 a1_0) := (blk_cell BKb4.out 0).trans rfl; have hy1 : w4.cell? ⟨g3, 1, none⟩ = some (.int .i64 a1_1) := (blk_cell BKb4.out 1).trans rfl; have hy2 : w4.cell? ⟨g3, 2, none⟩ = some (.slice A1_2 l1_2.length c1_2) := (blk_cell BKb4.out 2).trans rfl; have hz0 : w4.cell? ⟨g4, 0, none⟩ = some (.int .i64 0) := (blk_cell BKc4.out 0).trans rfl; have hf0 := blk_frozen BKc4.out 0; have hz1 : w4.cell? ⟨g4, 1, none⟩ = some (.int .i64 0) := (blk_cell BKc4.out 1).trans rfl; have hf1 := blk_frozen BKc4.out 1; have hz2 : w4.cell? ⟨g4, 2, none⟩ = some (.slice none 0 0) := (blk_cell BKc4.out 2).trans rfl; have hf2 := blk_frozen BKc4.out 2; cases b0)
  · go_wp2
    obtain ⟨e1, e2, e3⟩ := store_curve (x := 0) (y := 0) (v := .slice none 0 0) HB4.out GE.out BKc4.out (Kd.R_nil _ _ _ _ _)
    obtain ⟨rfl, rfl, rfl, rfl⟩ : 0 = r1 ∧ 0 = r2 ∧ [] = r3 ∧ 2 = r4 := by have h := HJ.out; simpa using h
    refine bodyPost_ret (results_ct rfl _ _ g4 24 _ (0, 0) _ rfl e1 Try.underlying24 rfl (by kernel_rfl)) rfl ?_
    exact ⟨_, rfl, e2, e3⟩
  · go_wp2_with (go_at_call 16; (with_reducible refine (curve_Valid.calls a1_0 a1_1 _ _ l1_2 _ _ (Kd.C_below HR1.out HB4.out) HC1.out V1.out).mono ?_); rintro e w5 ⟨rfl, hb5⟩; have HB5 := Aside0.mk (below_then HB4.out HB4.out.size hb5); have BKa5 := Aside0.mk (blk_below BKa4.out hb5); have BKb5 := Aside0.mk (blk_below BKb4.out hb5); have BKc5 := Aside0.mk (blk_below BKc4.out hb5); clear hb5 HB4 BKa4 BKb4 BKc4 hy0 hy1 hy2 hz0 hz1 hz2 hf0 hf1 hf2; have hx0 : w5.cell? ⟨g2, 0, none⟩ = some (.int .i64 a0_0) := (blk_cell BKa5.out 0).trans rfl; have hx1 : w5.cell? ⟨g2, 1, none⟩ = some (.int .i64 a0_1) := (blk_cell BKa5.out 1).trans rfl; have hx2 : w5.cell? ⟨g2, 2, none⟩ = some (.slice A0_2 l0_2.length c0_2) := (blk_cell BKa5.out 2).trans rfl; have hy0 : w5.cell? ⟨g3, 0, none⟩ = some (.int .i64 a1_0) := (blk_cell BKb5.out 0).trans rfl; have hy1 : w5.cell? ⟨g3, 1, none⟩ = some (.int .i64 a1_1) := (blk_cell BKb5.out 1).trans rfl; have hy2 : w5.cell? ⟨g3, 2, none⟩ = some (.slice A1_2 l1_2.length c1_2) := (blk_cell BKb5.out 2).trans rfl; have hz0 : w5.cell? ⟨g4, 0, none⟩ = some (.int .i64 0) := (blk_cell BKc5.out 0).trans rfl; have hf0 := blk_frozen BKc5.out 0; have hz1 : w5.cell? ⟨g4, 1, none⟩ = some (.int .i64 0) := (blk_cell BKc5.out 1).trans rfl; have hf1 := blk_frozen BKc5.out 1; have hz2 : w5.cell? ⟨g4, 2, none⟩ = some (.slice none 0 0) := (blk_cell BKc5.out 2).trans rfl; have hf2 := blk_frozen BKc5.out 2; cases b1)
    · go_wp2
      obtain ⟨e1, e2, e3⟩ := store_curve (x := 0) (y := 0) (v := .slice none 0 0) HB5.out GE.out BKc5.out (Kd.R_nil _ _ _ _ _)
      obtain ⟨rfl, rfl, rfl, rfl⟩ : 0 = r1 ∧ 0 = r2 ∧ [] = r3 ∧ 2 = r4 := by have h := HJ.out; simpa using h
      refine bodyPost_ret (results_ct rfl _ _ g4 24 _ (0, 0) _ rfl e1 Try.underlying24 rfl (by kernel_rfl)) rfl ?_
      exact ⟨_, rfl, e2, e3⟩
    · have hl0 := L0.out (by first | trivial | rfl)
      have hl1 := L1.out (by first | trivial | rfl)
      have HL := Aside0.mk (And.intro hl0 hl1)
      clear hl0 hl1
      go_wp2_with (go_at_call 49; (with_reducible refine (concat_two w5.heap.size A0_2 A1_2 c0_2 c1_2 l0_2 l1_2 _ (blk_new _ _) (Kd.C_below HR0.out (below_alloc HB5.out _)) (Kd.C_below HR1.out (below_alloc HB5.out _)) (by have := HL.out; omega) (by have := HL.out; omega)).mono ?_); rintro e w6 ⟨v6, rfl, ho6, hb6⟩; rw [← HLL.out] at ho6; have hb56 := below_then (below_alloc (Below.refl w5.heap.size w5) (.cells #[.slice A0_2 l0_2.length c0_2, .slice A1_2 l1_2.length c1_2] 22)) (below_alloc (Below.refl w5.heap.size w5) _).size hb6; have HO6 := Aside0.mk (Kd.R_lower ho6 (Nat.le_trans HB5.out.size (below_alloc (Below.refl w5.heap.size w5) _).size)); have HB6 := Aside0.mk (below_then HB5.out HB5.out.size hb56); have BKa6 := Aside0.mk (blk_below BKa5.out hb56); have BKb6 := Aside0.mk (blk_below BKb5.out hb56); have BKc6 := Aside0.mk (blk_below BKc5.out hb56); clear ho6 hb6 hb56 HB5 BKa5 BKb5 BKc5 hx0 hx1 hx2 hy0 hy1 hy2 hz0 hz1 hz2 hf0 hf1 hf2; obtain ⟨A6, c6, e6⟩ := Kd.R_slice HO6.out; subst e6)
      have hsort := sort_own _ ll w.heap.size w6 HO6.out (by have := HL.out; rw [HLL.out, List.length_append]; omega)
      have HS := Aside0.mk hsort
      clear hsort
      go_wp2_with (go_at_call 50; (with_reducible refine HS.out.mono ?_); rintro e w7 ⟨rfl, ho7, hg7⟩; have HO7 := Aside0.mk ho7; have HB7 := Aside0.mk (HB6.out.grown hg7 HB6.out.size (fun k hk => Kd.R_base HO6.out k hk)); have BKa7 := Aside0.mk (blk_sort BKa6.out HO6.out hg7); have BKb7 := Aside0.mk (blk_sort BKb6.out HO6.out hg7); have BKc7 := Aside0.mk (blk_sort BKc6.out HO6.out hg7); clear ho7 hg7 HB6 BKa6 BKb6 BKc6 HS; have hx0 : w7.cell? ⟨g2, 0, none⟩ = some (.int .i64 a0_0) := (blk_cell BKa7.out 0).trans rfl; have hx1 : w7.cell? ⟨g2, 1, none⟩ = some (.int .i64 a0_1) := (blk_cell BKa7.out 1).trans rfl; have hx2 : w7.cell? ⟨g2, 2, none⟩ = some (.slice A0_2 l0_2.length c0_2) := (blk_cell BKa7.out 2).trans rfl; have hy0 : w7.cell? ⟨g3, 0, none⟩ = some (.int .i64 a1_0) := (blk_cell BKb7.out 0).trans rfl; have hy1 : w7.cell? ⟨g3, 1, none⟩ = some (.int .i64 a1_1) := (blk_cell BKb7.out 1).trans rfl; have hy2 : w7.cell? ⟨g3, 2, none⟩ = some (.slice A1_2 l1_2.length c1_2) := (blk_cell BKb7.out 2).trans rfl)
      have HM := Aside0.mk (show curve_made.f (wrap64 (a0_0 + a1_0)) (wrap64 (a0_1 + a1_1)) (sortL ll) = some (r1, r2, r3, r4) by
        have h := HJ.out
        rw [if_pos (by first | trivial | rfl)] at h
        unfold curve_made.f curve_Valid.f
        rw [Option.bind_some, ← h]
        cases validC (wrap64 (a0_0 + a1_0)) (wrap64 (a0_1 + a1_1)) (sortL ll) <;> rfl)
      have hlt4 := (Array.getElem?_eq_some_iff.1 BKc7.out).1
      have HLT := Aside0.mk hlt4
      clear hlt4
      go_wp2_with (go_at_call 51; (with_reducible refine (curve_made.calls _ _ (fun k_ => True ∧ k_ ≠ g4) _ (sortL ll) r1 r2 r3 r4 w w7 HB7.out (Kd.R_types HO7.out BKc7.out (by decide)) HM.out).mono ?_); rintro e w8 ⟨v8, rfl, ho8, hb8, hk8⟩; obtain ⟨A8, c8, e8⟩ := Kd.R_slice ho8; subst e8; have BKc8 := Aside0.mk ((hk8.2 g4 HLT.out (fun h => h.2 rfl)).trans BKc7.out); have HB8 := Aside0.mk hb8; have HR8 := Aside0.mk (Kd.R_mono (ok' := fun k_ => k_ ≠ g4) ho8 (fun k hk => by rcases hk with hk | hk; exact hk.2; have := HLT.out; omega)); clear ho8 hb8 hk8 hx0 hx1 hx2 hy0 hy1 hy2; have hz0 : w8.cell? ⟨g4, 0, none⟩ = some (.int .i64 0) := (blk_cell BKc8.out 0).trans rfl; have hf0 := blk_frozen BKc8.out 0; have hz1 : w8.cell? ⟨g4, 1, none⟩ = some (.int .i64 0) := (blk_cell BKc8.out 1).trans rfl; have hf1 := blk_frozen BKc8.out 1; have hz2 : w8.cell? ⟨g4, 2, none⟩ = some (.slice none 0 0) := (blk_cell BKc8.out 2).trans rfl; have hf2 := blk_frozen BKc8.out 2)
      obtain ⟨e1, e2, e3⟩ := store_curve (x := r1) (y := r2) HB8.out GE.out BKc8.out HR8.out
      refine bodyPost_ret (results_ct rfl _ _ g4 24 _ (0, 0) _ rfl e1 Try.underlying24 rfl (by kernel_rfl)) rfl ?_
      exact ⟨_, rfl, e2, e3⟩
end Go.Proofs.Ytingjpcgehgiiaa.Pr
end
section
namespace Go.Proofs.Ytingjpcgehgiiaa.Pr
open Go.RowKit Go.Proofs.YtingjpcgehgiiaaW.PrintWords Go.Proofs.YtingjpcgehgiiaaW.PrintLast Go.Proofs.YtingjpcgehgiiaaW.PrintMore
set_option linter.unusedVariables false
set_option linter.unusedSimpArgs false
theorem sortL_perm (l : List Int) : (sortL l).Perm l := List.mergeSort_perm l _
/-- The join. -/
def joinC (a b : S24) : S24 := ⟨a.f0 + b.f0, a.f1 + b.f1, sortL (a.f2 ++ b.f2)⟩
theorem joinR_eq {a b : S24} (ha : Vc a) (hb : Vc b) : joinR a.f0 a.f1 a.f2 b.f0 b.f1 b.f2 = if Vc (joinC a b) then ((joinC a b).f0, (joinC a b).f1, (joinC a b).f2, 0) else (0, 0, [], 4) := by
  obtain ⟨h1, h2, h3, h4, h5, _, h7⟩ := vc_parts ha
  obtain ⟨k1, k2, k3, k4, k5, _, k7⟩ := vc_parts hb
  unfold joinR
  have e1 : wrap64 (a.f0 + b.f0) = a.f0 + b.f0 := by unfold wrap64; omega
  have e2 : wrap64 (a.f1 + b.f1) = a.f1 + b.f1 := by unfold wrap64; omega
  have e3 : (validC a.f0 a.f1 a.f2 && validC b.f0 b.f1 b.f2) = true := by rw [Bool.and_eq_true]; exact ⟨ha, hb⟩
  rw [e1, e2, if_pos e3]
  rfl
theorem joinR_arg {a b : S24} (h : ¬(Vc a ∧ Vc b)) : joinR a.f0 a.f1 a.f2 b.f0 b.f1 b.f2 = (0, 0, [], 2) := by
  unfold joinR
  rw [if_neg]
  rw [Bool.and_eq_true]
  exact h
theorem gC_join (a b : S24) (p : Int) : gC (joinC a b) p = gC a p + gC b p := by
  unfold gC joinC
  simp only
  rw [pos_perm p (sortL_perm _), pos_append, Int.mul_add]
  omega
/-- How many are below. -/
def cnt (p : Int) (l : List Int) : Nat := l.countP fun s => decide (s < p)
theorem cnt_none {p : Int} {l : List Int} (h : ∀ s ∈ l, p ≤ s) : cnt p l = 0 := by
  unfold cnt
  rw [List.countP_eq_zero]
  intro s hs
  have := h s hs
  simp only [decide_eq_true_eq]
  omega
theorem cnt_all {p : Int} {l : List Int} (h : ∀ s ∈ l, s < p) : cnt p l = l.length := by
  unfold cnt
  rw [List.countP_eq_length]
  intro s hs
  simpa using h s hs
theorem cnt_le (p : Int) (l : List Int) : cnt p l ≤ l.length := List.countP_le_length
theorem cnt_split (p : Int) (l : List Int) (k : Nat) : cnt p l = cnt p (l.take k) + cnt p (l.drop k) := by
  unfold cnt
  rw [← List.countP_append, List.take_append_drop]
/-- In an ordered list the counts part it. -/
theorem cnt_parts {l : List Int} (h : sortedI l = true) (p : Int) : (∀ s ∈ l.take (cnt p l), s < p) ∧ (∀ s ∈ l.drop (cnt p l), p ≤ s) := by
  obtain ⟨k, h1, h2, h3⟩ := parts_at h p
  have e : cnt p l = k := by
    rw [cnt_split p l k, cnt_all h2, cnt_none h3, List.length_take]
    omega
  rw [e]
  exact ⟨h2, h3⟩
end Go.Proofs.Ytingjpcgehgiiaa.Pr
end
section
namespace Go.Proofs.Ytingjpcgehgiiaa.Pr
open Go.RowKit Go.Proofs.YtingjpcgehgiiaaW.PrintWords Go.Proofs.YtingjpcgehgiiaaW.PrintLast Go.Proofs.YtingjpcgehgiiaaW.PrintMore
set_option linter.unusedVariables false
set_option linter.unusedSimpArgs false
theorem mid_w (i j : Nat) (h : i + j ≤ 4611686018427387904) : wrap64 (IntKind.u64.wrap (wrap64 ((i : Int) + (j : Int))) / 2) = (((i + j) / 2 : Nat) : Int) := by
  have e1 : wrap64 ((i : Int) + (j : Int)) = ((i + j : Nat) : Int) := by unfold wrap64; omega
  have e2 : IntKind.u64.wrap ((i + j : Nat) : Int) = ((i + j : Nat) : Int) := by
    rw [IntKind.wrap_u64]
    omega
  rw [e1, e2]
  unfold wrap64
  omega
theorem search_end {l : List Int} (p : Int) (i j : Nat) (hij : ¬i < j) (h1 : i ≤ cnt p l) (h2 : cnt p l ≤ j) (h3 : j ≤ l.length) : ∃ b, Ev (fun k => slices_BinarySearch_int_int.l0 k l p (l.length : Int) (i : Int) (j : Int)) ((cnt p l : Int), b) := by
  have e : i = cnt p l := by omega
  subst e
  by_cases hx : cnt p l < l.length
  · by_cases he : rd l ((cnt p l : Nat) : Int) = p
    · refine ⟨true, Ev.step (f := fun _ => some (((cnt p l : Nat) : Int), true)) (fun k => ?_) (Ev.now _)⟩
      simp only [slices_BinarySearch_int_int.l0]
      rw [if_neg (by omega), if_pos (by omega), if_pos (by omega), if_pos (by omega), if_pos he]
    · refine ⟨false, Ev.step (f := fun _ => some (((cnt p l : Nat) : Int), false)) (fun k => ?_) (Ev.now _)⟩
      simp only [slices_BinarySearch_int_int.l0]
      rw [if_neg (by omega), if_pos (by omega), if_pos (by omega), if_pos (by omega), if_neg he]
      unfold slices_isNaN_int.f
      simp
  · refine ⟨false, Ev.step (f := fun _ => some (((cnt p l : Nat) : Int), false)) (fun k => ?_) (Ev.now _)⟩
    simp only [slices_BinarySearch_int_int.l0]
    rw [if_neg (by omega), if_neg (by omega)]
theorem search_loop {l : List Int} (hs : sortedI l = true) (hl : l.length ≤ 1000000) (p : Int) : ∀ (n i j : Nat), j - i ≤ n → i ≤ cnt p l → cnt p l ≤ j → j ≤ l.length → ∃ b, Ev (fun k => slices_BinarySearch_int_int.l0 k l p (l.length : Int) (i : Int) (j : Int)) ((cnt p l : Int), b)
  | 0, i, j, hn, h1, h2, h3 => search_end p i j (by omega) h1 h2 h3
  | n + 1, i, j, hn, h1, h2, h3 => by
    obtain ⟨c1, c2⟩ := cnt_parts hs p
    by_cases hij : i < j
    · have hm := mid_w i j (by omega)
      obtain ⟨m, hmid⟩ : ∃ m, m = (i + j) / 2 := ⟨_, rfl⟩
      rw [← hmid] at hm
      have m1 : i ≤ m := by omega
      have m2 : m < j := by omega
      have e1 : wrap64 ((m : Int) + 1) = ((m + 1 : Nat) : Int) := by clear hm; unfold wrap64; omega
      have m3 : m < l.length := by omega
      have key : ∀ k, slices_BinarySearch_int_int.l0 (k + 1) l p (l.length : Int) (i : Int) (j : Int) = if rd l (m : Int) < p then slices_BinarySearch_int_int.l0 k l p (l.length : Int) ((m + 1 : Nat) : Int) (j : Int) else slices_BinarySearch_int_int.l0 k l p (l.length : Int) (i : Int) (m : Int) := fun k => by
        simp only [slices_BinarySearch_int_int.l0]
        have q1 : (i : Int) < (j : Int) := by clear hm e1; omega
        have q2 : 0 ≤ (m : Int) := by clear hm e1; omega
        have q3 : (m : Int) < (l.length : Int) := by clear hm e1; omega
        rw [hm, if_pos q1, if_pos q2, if_pos q3, less_f, Option.bind_some, e1]
        by_cases hc : rd l (m : Int) < p
        · rw [if_pos hc, if_pos (decide_eq_true hc)]
        · rw [if_neg hc, decide_eq_false hc, if_neg (by simp)]
      by_cases hc : rd l (m : Int) < p
      · have hcm : m + 1 ≤ cnt p l := by
          apply Classical.byContradiction
          intro hh
          have := c2 _ (rd_mem_drop (l := l) (k := cnt p l) (i := m) (by clear hm e1; omega) m3)
          clear hm e1
          omega
        obtain ⟨b, hb⟩ := search_loop hs hl p n (m + 1) j (by clear hm e1; omega) hcm h2 h3
        exact ⟨b, Ev.step (fun k => (key k).trans (if_pos hc)) hb⟩
      · have hcm : cnt p l ≤ m := by
          apply Classical.byContradiction
          intro hh
          have := c1 _ (rd_mem_take (l := l) (k := cnt p l) (i := m) (by clear hm e1; omega) m3)
          clear hm e1
          omega
        obtain ⟨b, hb⟩ := search_loop hs hl p n i m (by clear hm e1; omega) h1 hcm (by clear hm e1; omega)
        exact ⟨b, Ev.step (fun k => (key k).trans (if_neg hc)) hb⟩
    · exact search_end p i j hij h1 h2 h3
theorem below_ev {c : S24} (h : Vc c) (p : Int) : Ev (fun k => curve_walker_below.f k c.f0 c.f1 c.f2 p) (c.f0 + (cnt p c.f2 : Int)) := by
  obtain ⟨h1, h2, h3, h4, h5, hs, h7⟩ := vc_parts h
  have hc := cnt_le p c.f2
  obtain ⟨b, hb⟩ := search_loop hs (by omega) p c.f2.length 0 c.f2.length (by omega) (by omega) hc (Nat.le_refl _)
  have e : wrap64 (c.f0 + (cnt p c.f2 : Int)) = c.f0 + (cnt p c.f2 : Int) := by clear hb; unfold wrap64; omega
  unfold curve_walker_below.f slices_BinarySearch_int_int.f
  refine Ev.bind hb ?_
  rw [e]
  exact Ev.now _
theorem cnt_in {c : S24} (p : Int) : inC c (c.f0 + (cnt p c.f2 : Int)) := by
  have hc := cnt_le p c.f2
  exact ⟨by omega, by omega⟩
theorem cnt_tight {c : S24} (h : Vc c) (p : Int) : p * (c.f0 + (cnt p c.f2 : Int)) - valC c (c.f0 + (cnt p c.f2 : Int)) = gC c p := by
  obtain ⟨h1, h2, h3, h4, h5, hs, h7⟩ := vc_parts h
  obtain ⟨c1, c2⟩ := cnt_parts hs p
  have e : (c.f0 + (cnt p c.f2 : Int) - c.f0).toNat = cnt p c.f2 := by omega
  exact young_eq (cnt_in p) (by rw [e]; exact fun s hs => by have := c1 s hs; omega) (by rw [e]; exact c2)
theorem conj_ev {c : S24} (h : Vc c) {p : Int} (hp : -1073741824 ≤ p ∧ p ≤ 1073741824) : Ev (fun k => curve_conj.f k c.f0 c.f1 c.f2 p) (gC c p) := by
  unfold curve_conj.f
  refine Ev.bind (below_ev h p) ?_
  rw [at_val h (cnt_in p), Option.bind_some, term_w h (cnt_in p) hp, cnt_tight h p]
  exact Ev.now _
def difL (vs : List Int) (n : Nat) : List Int := (List.range n).map fun i : Nat => rd vs ((i + 1 : Nat) : Int) - rd vs (i : Int)
theorem difL_len (vs : List Int) (n : Nat) : (difL vs n).length = n := by unfold difL; rw [List.length_map, List.length_range]
theorem difL_succ (vs : List Int) (n : Nat) : difL vs (n + 1) = difL vs n ++ [rd vs ((n + 1 : Nat) : Int) - rd vs (n : Int)] := by
  unfold difL
  rw [List.range_succ, List.map_append]
  rfl
theorem difL_tot (vs : List Int) : ∀ n k : Nat, k ≤ n → tot ((difL vs n).take k) = rd vs (k : Int) - rd vs 0
  | n, 0, _ => by simp [tot]
  | n, k + 1, h => by
    have ih := difL_tot vs n k (by omega)
    rw [tot_take_succ _ _ (by rw [difL_len]; omega), ih]
    have e : rd (difL vs n) (k : Int) = rd vs ((k + 1 : Nat) : Int) - rd vs (k : Int) := by
      rw [rd_nat _ _ (by rw [difL_len]; omega)]
      unfold difL
      rw [List.getElem_map, List.getElem_range]
    rw [e]
    omega
theorem through_step (from_ : Int) (vs : List Int) {i : Nat} (h1 : i + 1 < vs.length) (hl : vs.length ≤ 1000) (hb : -4611686018427387904 ≤ rd vs ((i + 1 : Nat) : Int) - rd vs (i : Int) ∧ rd vs ((i + 1 : Nat) : Int) - rd vs (i : Int) ≤ 4611686018427387904) (k : Nat) :
    curve_through.l0 (k + 1) vs ((i + 1 : Nat) : Int) from_ (rd vs 0) (difL vs i) = curve_through.l0 k vs ((i + 2 : Nat) : Int) from_ (rd vs 0) (difL vs (i + 1)) := by
  have e1 : wrap64 (((i + 1 : Nat) : Int) - 1) = (i : Int) := by clear hb; unfold wrap64; omega
  have e2 : wrap64 (((i + 1 : Nat) : Int) + 1) = ((i + 2 : Nat) : Int) := by clear hb e1; unfold wrap64; omega
  have e3 : wrap64 (rd vs ((i + 1 : Nat) : Int) - rd vs (i : Int)) = rd vs ((i + 1 : Nat) : Int) - rd vs (i : Int) := by clear e1 e2; unfold wrap64; omega
  have q1 : ((i + 1 : Nat) : Int) < (vs.length : Int) := by clear e1 e2 e3 hb; omega
  have q2 : (0 : Int) ≤ ((i + 1 : Nat) : Int) := by clear e1 e2 e3 hb; omega
  have q3 : (0 : Int) ≤ (i : Int) := by clear e1 e2 e3 hb; omega
  have q4 : (i : Int) < (vs.length : Int) := by clear e1 e2 e3 hb; omega
  have q5 : (difL vs i).length < 17592186044416 := by rw [difL_len]; clear e1 e2 e3 hb; omega
  simp only [curve_through.l0]
  rw [e1, if_pos q1, if_pos q2, if_pos q3, if_pos q4, if_pos q5, e2, e3, difL_succ]
theorem through_loop (from_ : Int) (vs : List Int) (hl : vs.length ≤ 1000) (hb : ∀ i : Nat, i + 1 < vs.length → -4611686018427387904 ≤ rd vs ((i + 1 : Nat) : Int) - rd vs (i : Int) ∧ rd vs ((i + 1 : Nat) : Int) - rd vs (i : Int) ≤ 4611686018427387904) :
    ∀ n i : Nat, i + 1 + n = vs.length → Ev (fun k => curve_through.l0 k vs ((i + 1 : Nat) : Int) from_ (rd vs 0) (difL vs i)) (from_, rd vs 0, difL vs (vs.length - 1))
  | 0, i, h => by
    have e : i = vs.length - 1 := by omega
    refine Ev.step (f := fun _ => some (from_, rd vs 0, difL vs (vs.length - 1))) (fun k => ?_) (Ev.now _)
    simp only [curve_through.l0]
    rw [if_neg (by omega), ← e]
  | n + 1, i, h => Ev.step (through_step from_ vs (by omega) hl (hb i (by omega))) (through_loop from_ vs hl hb n (i + 1) (by omega))
theorem through_ev (from_ : Int) (vs : List Int) (h0 : 0 < vs.length) (hl : vs.length ≤ 1000) (hb : ∀ i : Nat, i + 1 < vs.length → -4611686018427387904 ≤ rd vs ((i + 1 : Nat) : Int) - rd vs (i : Int) ∧ rd vs ((i + 1 : Nat) : Int) - rd vs (i : Int) ≤ 4611686018427387904) :
    Ev (fun k => curve_through.f k from_ vs) (from_, rd vs 0, difL vs (vs.length - 1)) := by
  unfold curve_through.f
  have h := through_loop from_ vs hl hb (vs.length - 1) 0 (by omega)
  have e : difL vs 0 = [] := rfl
  rw [e] at h
  exact Ev.congr (fun k => if_pos (by omega)) h
def conV (c : S24) (lo : Int) (n : Nat) : List Int := (List.range n).map fun i : Nat => gC c (lo + (i : Int))
theorem conV_len (c : S24) (lo : Int) (n : Nat) : (conV c lo n).length = n := by unfold conV; rw [List.length_map, List.length_range]
theorem conV_rd (c : S24) (lo : Int) (n i : Nat) (h : i < n) : rd (conV c lo n) (i : Int) = gC c (lo + (i : Int)) := by
  rw [rd_nat _ _ (by rw [conV_len]; exact h)]
  unfold conV
  rw [List.getElem_map, List.getElem_range]
theorem conV_succ (c : S24) (lo : Int) (n : Nat) : conV c lo (n + 1) = conV c lo n ++ [gC c (lo + (n : Int))] := by
  unfold conV
  rw [List.range_succ, List.map_append]
  rfl
/-- The conjugate asx a curve: from lo, with n slopes. -/
def conC (c : S24) (lo : Int) (n : Nat) : S24 := ⟨lo, gC c lo, difL (conV c lo (n + 1)) n⟩
theorem conC_len (c : S24) (lo : Int) (n : Nat) : (conC c lo n).f2.length = n := difL_len _ _
theorem conC_val (c : S24) (lo : Int) (n i : Nat) (h : i ≤ n) : valC (conC c lo n) (lo + (i : Int)) = gC c (lo + (i : Int)) := by
  unfold valC conC
  simp only
  have e : (lo + (i : Int) - lo).toNat = i := by omega
  have z := conV_rd c lo (n + 1) 0 (by omega)
  rw [show lo + ((0 : Nat) : Int) = lo by omega] at z
  have z' : rd (conV c lo (n + 1)) 0 = gC c lo := z
  rw [e, difL_tot _ n i h, conV_rd c lo (n + 1) i (by omega), z']
  omega
theorem made_f (c : S24) : curve_made.f c.f0 c.f1 c.f2 = some (if Vc c then (c.f0, c.f1, c.f2, 0) else (0, 0, [], 4)) := by
  unfold curve_made.f
  rw [valid_f c, Option.bind_some]
  by_cases h : Vc c
  · rw [if_pos (decide_eq_true h), if_pos h]
  · rw [decide_eq_false h, if_neg (by simp), if_neg h]
theorem conj_loop {c : S24} (h : Vc c) {lo hi : Int} (hlo : -1048576 ≤ lo) (hhi : hi ≤ 1048576) (hn : hi ≤ lo + 64) (hle : lo ≤ hi) : ∀ n i : Nat, lo + (i : Int) + (n : Int) = hi + 1 →
    Ev (fun k => curve_Conj.l0 k lo hi (conV c lo i) (lo + (i : Int)) c.f0 c.f1 c.f2) (if Vc (conC c lo (hi - lo).toNat) then ((conC c lo (hi - lo).toNat).f0, (conC c lo (hi - lo).toNat).f1, (conC c lo (hi - lo).toNat).f2, 0) else (0, 0, [], 4))
  | 0, i, hi' => by
    have ei : i = (hi - lo).toNat + 1 := by omega
    have gb : ∀ j : Nat, j < i → -2252899392421889 ≤ rd (conV c lo i) (j : Int) ∧ rd (conV c lo i) (j : Int) ≤ 2252899392421889 := fun j hj => by
      rw [conV_rd c lo i j hj]
      exact gC_bound h (by omega)
    have ht := through_ev lo (conV c lo i) (by rw [conV_len]; omega) (by rw [conV_len]; omega) (fun j hj => by
      rw [conV_len] at hj
      have a1 := gb j (by omega)
      have a2 := gb (j + 1) (by omega)
      omega)
    have e0 : rd (conV c lo i) 0 = gC c lo := by
      have z := conV_rd c lo i 0 (by omega)
      rw [show lo + ((0 : Nat) : Int) = lo by omega] at z
      exact z
    rw [conV_len, e0] at ht
    have em := made_f (conC c lo (hi - lo).toNat)
    have ec : conC c lo (hi - lo).toNat = ⟨lo, gC c lo, difL (conV c lo i) (i - 1)⟩ := by
      unfold conC
      rw [← ei, show i - 1 = (hi - lo).toNat by omega]
    rw [ec] at em ⊢
    refine Ev.step (f := fun k => (curve_through.f k lo (conV c lo i)).bind fun bt512 => (curve_made.f bt512.1 bt512.2.1 bt512.2.2).bind fun bt517 => some (bt517.1, bt517.2.1, bt517.2.2.1, bt517.2.2.2)) (fun k => ?_) (Ev.bind ht ?_)
    · simp only [curve_Conj.l0]
      rw [if_neg (by omega)]
    · simp only at em ⊢
      rw [em, Option.bind_some]
      exact Ev.now _
  | n + 1, i, hi' => by
    have ih := conj_loop h hlo hhi hn hle n (i + 1) (by omega)
    have ew : wrap64 (lo + (i : Int) + 1) = lo + ((i + 1 : Nat) : Int) := by clear ih; unfold wrap64; omega
    rw [conV_succ] at ih
    refine Ev.step (f := fun k => (curve_conj.f k c.f0 c.f1 c.f2 (lo + (i : Int))).bind fun t508 => curve_Conj.l0 k lo hi (conV c lo i ++ [t508]) (lo + ((i + 1 : Nat) : Int)) c.f0 c.f1 c.f2) (fun k => ?_) (Ev.bind (conj_ev h (by clear ih ew; omega)) ih)
    simp only [curve_Conj.l0]
    have q : (conV c lo i).length < 17592186044416 := by rw [conV_len]; clear ih ew; omega
    rw [if_pos (by clear ih ew; omega), ew]
    simp only [if_pos q]
/-- What Conj returns. -/
def conOk (c : S24) (lo hi : Int) : Prop := Vc c ∧ -1048576 ≤ lo ∧ lo ≤ hi ∧ hi ≤ lo + 64 ∧ hi ≤ 1048576
instance (c : S24) (lo hi : Int) : Decidable (conOk c lo hi) := inferInstanceAs (Decidable (_ ∧ _))
def conR (c : S24) (lo hi : Int) : Int × Int × List Int × Int :=
  if conOk c lo hi then (if Vc (conC c lo (hi - lo).toNat) then ((conC c lo (hi - lo).toNat).f0, (conC c lo (hi - lo).toNat).f1, (conC c lo (hi - lo).toNat).f2, 0) else (0, 0, [], 4)) else (0, 0, [], 2)
theorem Conj_ev (c : S24) (lo hi : Int) : Ev (fun k => curve_Conj.f k c.f0 c.f1 c.f2 lo hi) (conR c lo hi) := by
  have bad : ¬conOk c lo hi → Ev (fun k => curve_Conj.j0 k lo hi true c.f0 c.f1 c.f2) (conR c lo hi) := fun hn => by
    unfold conR
    rw [if_neg hn]
    exact Ev.step (f := fun _ => some (0, 0, [], 2)) (fun k => by simp only [curve_Conj.j0]; rw [if_pos trivial]) (Ev.now _)
  unfold curve_Conj.f
  rw [valid_f c]
  by_cases h : Vc c
  · refine Ev.congr (fun k => (Option.bind_some _ _).trans (if_pos (decide_eq_true h))) ?_
    rw [within_f lo 1048576 (by decide) (by decide)]
    by_cases hw : inB lo 1048576 = true
    · have hw2 : -1048576 ≤ lo ∧ lo ≤ 1048576 := by
        unfold inB at hw
        simpa using hw
      refine Ev.congr (fun k => (Option.bind_some _ _).trans (if_pos hw)) ?_
      have ew : wrap64 (lo + 64) = lo + 64 := by unfold wrap64; omega
      rw [ew]
      by_cases h1 : hi < lo
      · exact Ev.congr (fun k => if_pos h1) (bad (fun e => by have := e.2.2.1; omega))
      · refine Ev.congr (fun k => if_neg h1) ?_
        by_cases h2 : hi > lo + 64
        · exact Ev.congr (fun k => if_pos h2) (bad (fun e => by have := e.2.2.2.1; omega))
        · refine Ev.congr (fun k => if_neg h2) ?_
          by_cases h3 : hi > 1048576
          · rw [decide_eq_true h3]
            exact bad (fun e => by have := e.2.2.2.2; omega)
          · rw [decide_eq_false h3]
            have ok : conOk c lo hi := ⟨h, hw2.1, by omega, by omega, by omega⟩
            have hl := conj_loop h (lo := lo) (hi := hi) hw2.1 (by omega) (by omega) (by omega) (hi - lo + 1).toNat 0 (by omega)
            unfold conR
            rw [if_pos ok]
            refine Ev.step (fun k => ?_) hl
            simp only [curve_Conj.j0]
            rw [if_neg (by simp), show lo + ((0 : Nat) : Int) = lo by omega]
            rfl
    · refine Ev.congr (fun k => (Option.bind_some _ _).trans (if_neg hw)) (bad (fun e => hw ?_))
      unfold inB
      have := e.2.1
      have := e.2.2.1
      have := e.2.2.2.2
      simp only [Bool.and_eq_true, decide_eq_true_eq]
      omega
  · exact Ev.congr (fun k => (Option.bind_some _ _).trans (if_neg (by rw [decide_eq_true_eq]; exact h))) (bad (fun e => h e.1))
end Go.Proofs.Ytingjpcgehgiiaa.Pr
end
section
namespace Go.Proofs.Ytingjpcgehgiiaa.Pr
open Go.RowKit Go.Proofs.YtingjpcgehgiiaaW.PrintWords Go.Proofs.YtingjpcgehgiiaaW.PrintLast Go.Proofs.YtingjpcgehgiiaaW.PrintMore
set_option linter.unusedVariables false
set_option linter.unusedSimpArgs false
def clone_int.f (l0 : List Int) : Option (List Int) := if l0.length ≤ 8796093022208 then some l0 else none
set_option maxHeartbeats 4000000 in
set_option maxRecDepth 100000 in
theorem clone_int.calls (A0 : Option Addr) (c0 : Nat) (l0 : List Int) (r : List Int) (w : World) (hr0 : Kd.C (Kd.int .i64) w A0 l0.length l0) (hc0 : l0.length ≤ c0) (h : clone_int.f l0 = some r) :
    Calls Try.prog 78 #[.slice A0 l0.length c0] w fun e w' => ∃ v0_ : Value, e = .returned v0_ ∧ Kd.R (Kd.int .i64) 3 w' w.heap.size (fun _ => True) v0_ r ∧ Below w.heap.size w w' := by
  unfold clone_int.f at h
  split at h
  · rename_i hlen
    injection h with h
    subst h
    have qT : ∀ (w : World) (a : Option Addr) (n c n' c' : Nat), (binOp .eql 22 (.slice a n c) (.slice none n' c')).run Try.prog w = .ok (.bool a.isNone) w := fun w a n c n' c' => Lib.run_eql_slice_nil w _ _ a n c n' c' Try.underlying22
    rcases A0 with _ | ad
    · have h0 : l0 = [] := by
        rcases l0 with _ | ⟨x, xs⟩
        · rfl
        · obtain ⟨ad, h, _⟩ := hr0.2.2 (by simp)
          cases h
      subst h0
      go_enter Try.func78, Try.ntmps78
      go_wp2
      go_ret
      exact ⟨_, rfl, Kd.R_nil _ _ _ _ _, Below.refl _ _⟩
    · have HR0 := Aside0.mk hr0
      clear hr0
      have HB := Aside0.mk (Below.refl w.heap.size w)
      have hb8 := Aside0.mk hlen
      clear hlen
      go_enter Try.func78, Try.ntmps78
      go_wp2_with (first | ((with_reducible refine gate_dst (N := 5) rfl ?_); refine Kd.R_lit (Kd.int .i64) _ 3 ?hg (N := 5) ?hd (xs := ([] : List Int)) (inner := []) (ok := fun _ => True) (okp := fun _ => True) ?hr ?hp (fun _ hk => hk) trivial (Below.refl _ _) (Nat.le_refl _) (by simp) ?_; (case hd => rfl); (case hg => rfl); (case hr => first | (go_simp; done) | (go_simp; rfl)); (case hp => exact Reps.none _ _); intro v1 w1 ho1 hb1 hg1 hn1; clear hg1 hn1; have HO := Aside0.mk (Kd.R_lower ho1 (Nat.le_refl _)); have HB1 := Aside0.mk hb1; clear ho1 hb1; clear HB; obtain ⟨Ao7, co7, eo7⟩ := Kd.R_slice HO.out; subst eo7) | (at_builtin; refine Kd.R_append_rows (Kd.int .i64) (Rr := (Kd.int .i64).K w) (w0 := w) w.heap.size rfl (.tmp 5) (.tmp 6) 22 3 (.int .i64 0) 8 rfl Try.underlying22 info3 rfl (by decide) (by omega) _ ([] : List Int) l0 (some ad) l0.length c0 (fun _ => True) (fun _ => False) rfl rfl HO.out ?aR ?aK (fun _ hk => hk.elim) (fun _ _ => trivial) HB1.out HB1.out.size ?aL ?_; (case aR => exact (Kd.C_below HR0.out HB1.out)); (case aK => (intro x cs hx; exact hx)); (case aL => (have := hb8.out; simp; omega)); intro v2 w2 ho2 hb2 hg2 hn2; clear hg2 hn2; rw [List.nil_append] at ho2; have HO2 := Aside0.mk ho2; have HB2 := Aside0.mk hb2; clear ho2 hb2 HO HB1; obtain ⟨Ao8, co8, eo8⟩ := Kd.R_slice HO2.out; subst eo8))
      go_ret
      exact ⟨_, rfl, HO2.out, HB2.out⟩
  · cases h
end Go.Proofs.Ytingjpcgehgiiaa.Pr
end
section
namespace Go.Proofs.Ytingjpcgehgiiaa.Pr
open Go.RowKit Go.Proofs.YtingjpcgehgiiaaW.PrintWords Go.Proofs.YtingjpcgehgiiaaW.PrintLast Go.Proofs.YtingjpcgehgiiaaW.PrintMore
attribute [local go_sem] max2_int min2_int max_two min_two max_three min_three max_four min_four   -- for this text's walks alone
set_option linter.unusedVariables false
set_option linter.unusedSimpArgs false
def curve_part.f (a0_0 : Int) (a0_1 : Int) (l0_2 : List Int) (a1 : Int) (a2 : Int) : Option (Int × Int × List Int) := (curve_at.f a0_0 a0_1 l0_2 a1).bind fun t474 => (if 0 ≤ (wrap64 (a1 - a0_0)) then (if (wrap64 (a1 - a0_0)) ≤ (wrap64 (a2 - a0_0)) then (if (wrap64 (a2 - a0_0)) ≤ (l0_2.length : Int) then ((clone_int.f ((l0_2.take ((wrap64 (a2 - a0_0)) : Int).toNat).drop ((wrap64 (a1 - a0_0)) : Int).toNat)).bind fun t476 => (some (a1, t474, t476))) else (none)) else (none)) else (none))
def curve_part.T1 : Bool × List (List Nat × List Nat) := (true, [([], []), ([], []), ([], []), ([1, 2], [1, 2]), ([], []), ([4], [4]), ([], []), ([], []), ([7], [7]), ([6, 8], [6, 8]), ([], []), ([], []), ([11], [11]), ([10, 12], [10, 12]), ([5, 9, 13], [5, 9, 13]), ([14, 3], [14]), ([0, 3, 15], [0, 3, 15]), ([16, 15, 0, 1, 2, 3, 4, 5, 6, 7, 8, 9, 10, 11, 12, 13, 14, 15, 16], [16])])
def curve_part.B1 : List Nat := [0, 0, 0, 6, 0, 16, 0, 0, 128, 448, 0, 0, 2048, 7168, 16368, 32766, 65535, 131071]
theorem curve_part.tab1 : rtab .any (opsOf Try.f76 1) = curve_part.T1 := by kernel_rfl
theorem curve_part.bits1 : waitsOk curve_part.T1.2 curve_part.B1 = true := by kernel_rfl
set_option maxHeartbeats 8000000 in
set_option maxRecDepth 100000 in
theorem curve_part.calls (a0_0 : Int) (a0_1 : Int) (A0_2 : Option Addr) (c0_2 : Nat) (l0_2 : List Int) (a1 : Int) (a2 : Int) (r1 : Int) (r2 : Int) (r3 : List Int) (w : World) (hr0_2 : Kd.C (Kd.int .i64) w A0_2 l0_2.length l0_2) (hc0_2 : l0_2.length ≤ c0_2) (h : curve_part.f a0_0 a0_1 l0_2 a1 a2 = some (r1, r2, r3)) :
 Calls Try.prog 76 #[.agg #[.int .i64 a0_0, .int .i64 a0_1, .slice A0_2 l0_2.length c0_2], .int .i64 a1, .int .i64 a2] w fun e w' => ∃ v2_ : Value, e = .returned (.agg #[.int .i64 r1, .int .i64 r2, v2_]) ∧ Kd.R (Kd.int .i64) 3 w' w.heap.size (fun _ => True) v2_ r3 ∧ Below w.heap.size w w' := by
 have hu24 := Try.underlying24
 have HR0_2 := Aside0.mk hr0_2
 have HC0_2 := Aside0.mk hc0_2
 clear hr0_2 hc0_2
 have HB := Aside0.mk (Below.refl w.heap.size w)
 have H : ((curve_at.f a0_0 a0_1 l0_2 a1).bind fun t474 => (if 0 ≤ (wrap64 (a1 - a0_0)) then (if (wrap64 (a1 - a0_0)) ≤ (wrap64 (a2 - a0_0)) then (if (wrap64 (a2 - a0_0)) ≤ (l0_2.length : Int) then ((clone_int.f ((l0_2.take ((wrap64 (a2 - a0_0)) : Int).toNat).drop ((wrap64 (a1 - a0_0)) : Int).toNat)).bind fun t476 => (some (a1, t474, t476))) else (none)) else (none)) else (none))) = some (r1, r2, r3) := h
 clear h
 replace H := Option.bind_eq_some_iff.mp H
 obtain ⟨t474, A40, H⟩ := H
 replace H : (if 0 ≤ (wrap64 (a1 - a0_0)) then (if (wrap64 (a1 - a0_0)) ≤ (wrap64 (a2 - a0_0)) then (if (wrap64 (a2 - a0_0)) ≤ (l0_2.length : Int) then ((clone_int.f ((l0_2.take ((wrap64 (a2 - a0_0)) : Int).toNat).drop ((wrap64 (a1 - a0_0)) : Int).toNat)).bind fun t476 => (some (a1, t474, t476))) else (none)) else (none)) else (none)) = some (r1, r2, r3) := H
 have A4 := Aside0.mk A40
 clear A40
 obtain ⟨ji5, hji5⟩ : ∃ j_ : Int, (wrap64 (a1 - a0_0)) = j_ := ⟨_, rfl⟩
 replace H : (if 0 ≤ (ji5) then (if (ji5) ≤ (wrap64 (a2 - a0_0)) then (if (wrap64 (a2 - a0_0)) ≤ (l0_2.length : Int) then ((clone_int.f ((l0_2.take ((wrap64 (a2 - a0_0)) : Int).toNat).drop ((ji5) : Int).toNat)).bind fun t476 => (some (a1, t474, t476))) else (none)) else (none)) else (none)) = some (r1, r2, r3) := by first | (rw [hji5] at H; exact H) | (simp only [hji5] at H ⊢; exact H)
 (try rw [hji5] at A4)
 have hji5w : (IntKind.i64.wrap (a1 - a0_0)) = ji5 := (i64_w _).trans hji5
 by_cases c6 : 0 ≤ (ji5)
 · rw [if_pos c6] at H
   have c6b0 := eq_true c6
   have c6b1 : decide (0 ≤ (ji5)) = true := decide_eq_true c6
   clear c6
   by_cases c7 : (ji5) ≤ (wrap64 (a2 - a0_0))
   · rw [if_pos c7] at H
     have c7b0 := eq_true c7
     have c7b1 : decide ((ji5) ≤ (wrap64 (a2 - a0_0))) = true := decide_eq_true c7
     clear c7
     by_cases c8 : (wrap64 (a2 - a0_0)) ≤ (l0_2.length : Int)
     · rw [if_pos c8] at H
       have c8b0 := eq_true c8
       have c8b1 : decide ((wrap64 (a2 - a0_0)) ≤ (l0_2.length : Int)) = true := decide_eq_true c8
       clear c8
       replace H := Option.bind_eq_some_iff.mp H
       obtain ⟨t476, A90, H⟩ := H
       replace H : (some (a1, t474, t476)) = some (r1, r2, r3) := H
       have A9 := Aside0.mk A90
       clear A90
       simp only [Option.some.injEq, Prod.mk.injEq] at H
       obtain ⟨rfl, rfl, rfl⟩ := H
       go_enter Try.func76, Try.ntmps76
       try go_wp2_with (first | ((with_reducible refine gate_dst (N := 3) rfl ?_); refine box_event ?hg (N := 3) ?hd (cs := #[.int .i64 a0_0, .int .i64 a0_1, .slice A0_2 l0_2.length c0_2]) (t := 24) ?hr ?_; (case hd => rfl); (case hg => rfl); (case hr => first | (go_simp; done) | (go_simp; rfl)); intro gb472 hg w10 hbox hb; have n0_ := Aside0.mk (below_step (by repeat (first | (with_reducible first | exact HB.out | apply below_alloc | apply pw_below_drewN | apply below_drew1) | exact HB.out)) hb); have n1_ := Aside0.mk (hbox); have n2_ := Aside0.mk ((by rw [hg]; exact (below_size (by repeat (first | (with_reducible first | exact HB.out | apply below_alloc | apply pw_below_drewN | apply below_drew1) | exact HB.out))) : w.heap.size ≤ gb472)); have n3_ := Aside0.mk ((by rw [hg]; exact (below_size (by repeat (first | (with_reducible first | exact HB.out | apply below_alloc | apply pw_below_drewN | apply below_drew1) | exact HB.out))) : w.heap.size ≤ gb472)); clear HB; have HB := n0_; have BK472 := n1_; have GW472 := n2_; have GE472 := n3_; clear n0_ n1_ n2_ n3_; clear hb hbox hg) | ((with_reducible refine gate_dst (N := 6) rfl ?_); refine box_event ?hg (N := 6) ?hd (cs := #[.int .i64 0, .int .i64 0, .slice none 0 0]) (t := 24) ?hr ?_; (case hd => rfl); (case hg => rfl); (case hr => first | (go_simp; done) | (go_simp; rfl)); intro gb473 hg w11 hbox hb; have n0_ := Aside0.mk (blk_below (g := gb472) (o := .cells #[.int .i64 a0_0, .int .i64 a0_1, .slice A0_2 l0_2.length c0_2] 24 (0, 0)) (by (with_reducible repeat (first | refine blk_drewN ?_ _ | refine blk_drew ?_ | refine blk_alloc ?_ _)); exact BK472.out) hb); have n1_ := Aside0.mk (below_step (by repeat (first | (with_reducible first | exact HB.out | apply below_alloc | apply pw_below_drewN | apply below_drew1 | refine below_set ?_ GE472.out) | exact HB.out)) hb); have n2_ := Aside0.mk (hbox); have n3_ := Aside0.mk ((by rw [hg]; exact (below_size (by repeat (first | (with_reducible first | exact HB.out | apply below_alloc | apply pw_below_drewN | apply below_drew1 | refine below_set ?_ GE472.out) | exact HB.out))) : w.heap.size ≤ gb473)); have n4_ := Aside0.mk ((by rw [hg]; exact (below_size (by repeat (first | (with_reducible first | exact HB.out | apply below_alloc | apply pw_below_drewN | apply below_drew1 | refine below_set ?_ GE472.out) | exact HB.out))) : w.heap.size ≤ gb473)); have n5_ := Aside0.mk ((by rw [hg]; exact Nat.ne_of_lt (blk_lt (g := gb472) (o := .cells #[.int .i64 a0_0, .int .i64 a0_1, .slice A0_2 l0_2.length c0_2] 24 (0, 0)) (by (with_reducible repeat (first | refine blk_drewN ?_ _ | refine blk_drew ?_ | refine blk_alloc ?_ _)); exact BK472.out)) : gb472 ≠ gb473)); have n6_ := Aside0.mk ((by rw [hg]; exact Nat.ne_of_gt (blk_lt (g := gb472) (o := .cells #[.int .i64 a0_0, .int .i64 a0_1, .slice A0_2 l0_2.length c0_2] 24 (0, 0)) (by (with_reducible repeat (first | refine blk_drewN ?_ _ | refine blk_drew ?_ | refine blk_alloc ?_ _)); exact BK472.out)) : gb473 ≠ gb472)); clear BK472; clear HB; have BK472 := n0_; have HB := n1_; have BK473 := n2_; have GW473 := n3_; have GE473 := n4_; have NB472_473 := n5_; have NB473_472 := n6_; clear n0_ n1_ n2_ n3_ n4_ n5_ n6_; clear hb hbox hg))
       have n0_ := Aside0.mk (blk_drew BK472.out)
       have n1_ := Aside0.mk (blk_drew BK473.out)
       have n2_ := Aside0.mk (below_drew1 HB.out)
       clear BK472
       clear BK473
       clear HB
       have BK472 := n0_
       have BK473 := n1_
       have HB := n2_
       clear n0_ n1_ n2_
       obtain ⟨i013, hi013, _, hsz13, _⟩ := info_parts info3
       obtain ⟨A13, hcut13, hA13, hC13⟩ := print_mid_of (P := Try.prog) (Value.int .i64) 0 22 3 .i64 .i64 Try.underlying22 hi013 hsz13 A0_2 c0_2 l0_2 (ji5) (wrap64 (a2 - a0_0)) (of_decide_eq_true (by first | (with_reducible assumption) | assumption)) (by first | omega | exact of_decide_eq_true (by first | (with_reducible assumption) | assumption)) (of_decide_eq_true (by first | (with_reducible assumption) | assumption)) HC0_2.out
       have HR475 := Aside0.mk (Kd.C_of_reads (h1 := fun _ => rfl) (hA13 _ (Kd.reads_of_C HR0_2.out)))
       have HC475 := Aside0.mk hC13
       clear hA13 hC13 hi013 hsz13
       refine start_ (n := 18) (S := fun w' => w'.cell? ⟨gb472, 0, none⟩ = some (.int .i64 a0_0) ∧ w'.cell? ⟨gb472, 1, none⟩ = some (.int .i64 a0_1) ∧ w'.cell? ⟨gb472, 2, none⟩ = some (.slice A0_2 l0_2.length c0_2)) (ds := []) #[false, false, false, false, false, false, false, false, false, false, false, false, false, false, false, false, false, false] (by kernel_rfl) rfl rfl ⟨(blk_cell BK472.out 0).trans rfl, (blk_cell BK472.out 1).trans rfl, (blk_cell BK472.out 2).trans rfl⟩ (fun hHeld => ?_); refine with_tabW curve_part.tab1 curve_part.bits1 (fun HT_ HW_ => ?_)
       generalize w11.drew = w12 at BK472 BK473 HB HR475 hHeld ⊢
       refine pure_ (i := 0) (N := some 7) (v := ?_) (a' := ?_) #[true, false, false, false, false, false, false, false, false, false, false, false, false, false, false, false, false, false] rfl rfl (any_of HT_.out (by kernel_rfl)) (fun _ _ _ h => h) (Or.inl ⟨by rfl, ?_⟩) ?_ ?_
       rotate_left
       · intro w'
         go_simp
         with_reducible rfl
       rotate_left
       · simp only [Act.put, List.setIfInBounds_toArray, List.set_cons_zero, List.set_cons_succ, i64_w, i32_w]
         rfl
       refine pure_ (i := 2) (N := some 9) (v := ?_) (a' := ?_) #[true, false, true, false, false, false, false, false, false, false, false, false, false, false, false, false, false, false] rfl rfl (any_of HT_.out (by kernel_rfl)) (fun _ _ _ h => h) (Or.inl ⟨by rfl, ?_⟩) ?_ ?_
       rotate_left
       · intro w'
         go_simp
         with_reducible rfl
       rotate_left
       · simp only [Act.put, List.setIfInBounds_toArray, List.set_cons_zero, List.set_cons_succ, i64_w, i32_w]
         rfl
       refine pure_ (i := 4) (N := some 11) (v := ?_) (a' := ?_) #[true, false, true, false, true, false, false, false, false, false, false, false, false, false, false, false, false, false] rfl rfl (any_of HT_.out (by kernel_rfl)) (fun _ _ _ h => h) (Or.inl ⟨by rfl, ?_⟩) ?_ ?_
       rotate_left
       · intro w'
         go_simp
         with_reducible rfl
       rotate_left
       · simp only [Act.put, List.setIfInBounds_toArray, List.set_cons_zero, List.set_cons_succ, i64_w, i32_w]
         rfl
       refine pure_ (i := 6) (N := some 13) (v := ?_) (a' := ?_) #[true, false, true, false, true, false, true, false, false, false, false, false, false, false, false, false, false, false] rfl rfl (any_of HT_.out (by kernel_rfl)) (fun _ _ _ h => h) (Or.inl ⟨by rfl, ?_⟩) ?_ ?_
       rotate_left
       · intro w'
         go_simp
         with_reducible rfl
       rotate_left
       · simp only [Act.put, List.setIfInBounds_toArray, List.set_cons_zero, List.set_cons_succ, i64_w, i32_w]
         rfl
       refine pure_ (i := 7) (N := some 14) (v := ?_) (a' := ?_) #[true, false, true, false, true, false, true, true, false, false, false, false, false, false, false, false, false, false] rfl rfl (any_of HT_.out (by kernel_rfl)) (fun _ _ _ h => h) (Or.inl ⟨by rfl, ?_⟩) ?_ ?_
       rotate_left
       · intro w'
         go_simp
         with_reducible rfl
       rotate_left
       · simp only [Act.put, List.setIfInBounds_toArray, List.set_cons_zero, List.set_cons_succ, i64_w, i32_w]
         rfl
       refine pure_ (i := 10) (N := some 17) (v := ?_) (a' := ?_) #[true, false, true, false, true, false, true, true, false, false, true, false, false, false, false, false, false, false] rfl rfl (any_of HT_.out (by kernel_rfl)) (fun _ _ _ h => h) (Or.inl ⟨by rfl, ?_⟩) ?_ ?_
       rotate_left
       · intro w'
         go_simp
         with_reducible rfl
       rotate_left
       · simp only [Act.put, List.setIfInBounds_toArray, List.set_cons_zero, List.set_cons_succ, i64_w, i32_w]
         rfl
       refine pure_ (i := 11) (N := some 18) (v := ?_) (a' := ?_) #[true, false, true, false, true, false, true, true, false, false, true, true, false, false, false, false, false, false] rfl rfl (any_of HT_.out (by kernel_rfl)) (fun _ _ _ h => h) (Or.inl ⟨by rfl, ?_⟩) ?_ ?_
       rotate_left
       · intro w'
         go_simp
         with_reducible rfl
       rotate_left
       · simp only [Act.put, List.setIfInBounds_toArray, List.set_cons_zero, List.set_cons_succ, i64_w, i32_w]
         rfl
       refine take_ (i := 1) (N := some 8) (v := ?_) (a' := ?_) #[true, true, true, false, true, false, true, true, false, false, true, true, false, false, false, false, false, false] rfl rfl (take_ofW HT_.out HW_.out (by kernel_rfl)) (fun _ _ _ h => h) (Or.inl ⟨by rfl, ?_⟩) hHeld ?_ ?_
       rotate_left
       · rintro w' ⟨s0, s1, s2⟩
         go_simp
         with_reducible rfl
       rotate_left
       · simp only [Act.put, List.setIfInBounds_toArray, List.set_cons_zero, List.set_cons_succ, i64_w, i32_w]
         rfl
       refine take_ (i := 5) (N := some 12) (v := ?_) (a' := ?_) #[true, true, true, false, true, true, true, true, false, false, true, true, false, false, false, false, false, false] rfl rfl (take_ofW HT_.out HW_.out (by kernel_rfl)) (fun _ _ _ h => h) (Or.inl ⟨by rfl, ?_⟩) hHeld ?_ ?_
       rotate_left
       · rintro w' ⟨s0, s1, s2⟩
         go_simp
         with_reducible rfl
       rotate_left
       · simp only [Act.put, List.setIfInBounds_toArray, List.set_cons_zero, List.set_cons_succ, i64_w, i32_w]
         rfl
       refine take_ (i := 8) (N := some 15) (v := ?_) (a' := ?_) #[true, true, true, false, true, true, true, true, true, false, true, true, false, false, false, false, false, false] rfl rfl (take_ofW HT_.out HW_.out (by kernel_rfl)) (fun _ _ _ h => h) (Or.inl ⟨by rfl, ?_⟩) hHeld ?_ ?_
       rotate_left
       · rintro w' ⟨s0, s1, s2⟩
         go_simp
         with_reducible rfl
       rotate_left
       · simp only [Act.put, List.setIfInBounds_toArray, List.set_cons_zero, List.set_cons_succ, i64_w, i32_w]
         rfl
       refine pure_ (i := 9) (N := some 16) (v := ?_) (a' := ?_) #[true, true, true, false, true, true, true, true, true, true, true, true, false, false, false, false, false, false] rfl rfl (any_of HT_.out (by kernel_rfl)) (fun _ _ _ h => h) (Or.inl ⟨by rfl, ?_⟩) ?_ ?_
       rotate_left
       · intro w'
         go_simp
         with_reducible rfl
       rotate_left
       · simp only [Act.put, List.setIfInBounds_toArray, List.set_cons_zero, List.set_cons_succ, i64_w, i32_w]
         rfl
       refine take_ (i := 12) (N := some 19) (v := ?_) (a' := ?_) #[true, true, true, false, true, true, true, true, true, true, true, true, true, false, false, false, false, false] rfl rfl (take_ofW HT_.out HW_.out (by kernel_rfl)) (fun _ _ _ h => h) (Or.inl ⟨by rfl, ?_⟩) hHeld ?_ ?_
       rotate_left
       · rintro w' ⟨s0, s1, s2⟩
         go_simp
         with_reducible rfl
       rotate_left
       · simp only [Act.put, List.setIfInBounds_toArray, List.set_cons_zero, List.set_cons_succ, i64_w, i32_w]
         rfl
       refine pure_ (i := 13) (N := some 20) (v := ?_) (a' := ?_) #[true, true, true, false, true, true, true, true, true, true, true, true, true, true, false, false, false, false] rfl rfl (any_of HT_.out (by kernel_rfl)) (fun _ _ _ h => h) (Or.inl ⟨by rfl, ?_⟩) ?_ ?_
       rotate_left
       · intro w'
         go_simp
         with_reducible rfl
       rotate_left
       · simp only [Act.put, List.setIfInBounds_toArray, List.set_cons_zero, List.set_cons_succ, i64_w, i32_w]
         rfl
       refine pure_ (i := 14) (N := some 21) (v := ?_) (a' := ?_) #[true, true, true, false, true, true, true, true, true, true, true, true, true, true, true, false, false, false] rfl rfl (any_of HT_.out (by kernel_rfl)) (fun _ _ _ h => h) (Or.inl ⟨by rfl, ?_⟩) ?_ ?_
       rotate_left
       · intro w'
         go_simp
         with_reducible rfl
       rotate_left
       · simp only [Act.put, List.setIfInBounds_toArray, List.set_cons_zero, List.set_cons_succ, i64_w, i32_w]
         rfl
       refine one_ (i := 3) (N := some 10) #[true, true, true, true, true, true, true, true, true, true, true, true, true, true, true, false, false, false] rfl rfl (one_of HT_.out (by kernel_rfl)) (by decide) (fun K hK => ?_)
       refine goes_ Try.func61 (by kernel_rfl) rfl #[.agg #[.int .i64 a0_0, .int .i64 a0_1, .slice A0_2 l0_2.length c0_2], .int .i64 a1] (by rfl) rfl rfl (by (try simp only [List.map_toArray, List.map_cons, List.map_nil]); first | done | rfl | (simp only [List.length_drop, List.length_take]; rfl)) ?_
       with_reducible refine (curve_at.calls a0_0 a0_1 _ _ l0_2 a1 t474 _ ?side1 ?side2 A4.out).mono ?_
       (case side1 => repeat (first | exact (Kd.C_below HR0_2.out HB.out) | (with_reducible refine Kd.C_alloc ?_ _) | (with_reducible refine Kd.C_drewN ?_ _) | (with_reducible refine Kd.C_drew ?_)))
       (case side2 => exact HC0_2.out)
       rintro e w14 ⟨rfl, hb⟩
       refine ⟨_, rfl, ?_⟩
       have n0_ := Aside0.mk (blk_below (g := gb472) (o := .cells #[.int .i64 a0_0, .int .i64 a0_1, .slice A0_2 l0_2.length c0_2] 24 (0, 0)) (by (with_reducible repeat (first | refine blk_drewN ?_ _ | refine blk_drew ?_ | refine blk_alloc ?_ _)); exact BK472.out) hb)
       have n1_ := Aside0.mk (blk_below (g := gb473) (o := .cells #[.int .i64 0, .int .i64 0, .slice none 0 0] 24 (0, 0)) (by (with_reducible repeat (first | refine blk_drewN ?_ _ | refine blk_drew ?_ | refine blk_alloc ?_ _)); exact BK473.out) hb)
       have n2_ := Aside0.mk (below_step (by repeat (first | (with_reducible first | exact HB.out | apply below_alloc | apply pw_below_drewN | apply below_drew1 | refine below_set ?_ GE472.out | refine below_set ?_ GE473.out) | exact HB.out)) hb)
       clear BK472
       clear BK473
       clear HB
       have BK472 := n0_
       have BK473 := n1_
       have HB := n2_
       clear n0_ n1_ n2_
       (try clear hb)
       (try clear hb2)
       (try clear hk)
       (try clear hi)
       refine hK.out _ _ ⟨(blk_cell BK472.out 0).trans rfl, (blk_cell BK472.out 1).trans rfl, (blk_cell BK472.out 2).trans rfl⟩ (fun hHeld => ?_)
       clear hK K
       refine norm_ (a' := ?_) ?_ ?_
       rotate_left
       · show Act.put _ (some 10) _ = _
         simp only [Act.put, List.setIfInBounds_toArray, List.set_cons_zero, List.set_cons_succ, i64_w, i32_w]
         rfl
       refine one_ (i := 15) (N := some 22) #[true, true, true, true, true, true, true, true, true, true, true, true, true, true, true, true, false, false] rfl rfl (one_of HT_.out (by kernel_rfl)) (by decide) (fun K hK => ?_)
       refine goes_ Try.func78 (by kernel_rfl) rfl #[.slice A13 ((l0_2.take ((wrap64 (a2 - a0_0)) : Int).toNat).drop ((ji5) : Int).toNat).length (c0_2 - (ji5).toNat)] (by rfl) rfl rfl (by (try simp only [List.map_toArray, List.map_cons, List.map_nil]); first | done | (rw [show ((l0_2.take ((wrap64 (a2 - a0_0)) : Int).toNat).drop ((ji5) : Int).toNat).length = ((wrap64 (a2 - a0_0)).toNat - (ji5).toNat) from (by rw [List.length_drop, List.length_take]; have h_ : ((wrap64 (a2 - a0_0)) : Int) ≤ (l0_2.length : Int) := of_decide_eq_true (by first | (with_reducible assumption) | assumption); omega)] <;> rfl) | (simp only [hji5]; rfl) | rfl | (simp only [List.length_drop, List.length_take]; rfl)) ?_
       with_reducible refine (clone_int.calls _ _ ((l0_2.take ((wrap64 (a2 - a0_0)) : Int).toNat).drop ((ji5) : Int).toNat) t476 _ ?side1 ?side2 A9.out).mono ?_
       (case side1 => repeat (first | exact (Kd.C_below HR475.out HB.out) | (with_reducible refine Kd.C_alloc ?_ _) | (with_reducible refine Kd.C_drewN ?_ _) | (with_reducible refine Kd.C_drew ?_)))
       (case side2 => exact HC475.out)
       rintro e w15 ⟨v477, rfl, ho0, hb⟩
       refine ⟨_, rfl, ?_⟩
       have n0_ := Aside0.mk (Kd.R_lower ho0 (below_size (by repeat (first | (with_reducible first | exact HB.out | apply below_alloc | apply pw_below_drewN | apply below_drew1 | refine below_set ?_ GE472.out | refine below_set ?_ GE473.out) | exact HB.out))))
       have n1_ := Aside0.mk (blk_below (g := gb472) (o := .cells #[.int .i64 a0_0, .int .i64 a0_1, .slice A0_2 l0_2.length c0_2] 24 (0, 0)) (by (with_reducible repeat (first | refine blk_drewN ?_ _ | refine blk_drew ?_ | refine blk_alloc ?_ _)); exact BK472.out) hb)
       have n2_ := Aside0.mk (blk_below (g := gb473) (o := .cells #[.int .i64 0, .int .i64 0, .slice none 0 0] 24 (0, 0)) (by (with_reducible repeat (first | refine blk_drewN ?_ _ | refine blk_drew ?_ | refine blk_alloc ?_ _)); exact BK473.out) hb)
       have n3_ := Aside0.mk (below_step (by repeat (first | (with_reducible first | exact HB.out | apply below_alloc | apply pw_below_drewN | apply below_drew1 | refine below_set ?_ GE472.out | refine below_set ?_ GE473.out) | exact HB.out)) hb)
       clear BK472
       clear BK473
       clear HB
       have HO478 := n0_
       have BK472 := n1_
       have BK473 := n2_
       have HB := n3_
       clear n0_ n1_ n2_ n3_
       (try clear hb)
       (try clear hb2)
       (try clear hk)
       (try clear hi)
       (try clear ho0)
       obtain ⟨Ao16, co16, eo16⟩ := Kd.R_slice HO478.out
       (first | subst eo16 | (injection eo16 with f1_ f2_ f3_; have f4_ := f1_.symm; have f5_ := f3_.symm; clear f1_ f2_ f3_; subst f4_; subst f5_))
       refine hK.out _ _ ⟨(blk_cell BK472.out 0).trans rfl, (blk_cell BK472.out 1).trans rfl, (blk_cell BK472.out 2).trans rfl⟩ (fun hHeld => ?_)
       clear hK K
       refine norm_ (a' := ?_) ?_ ?_
       rotate_left
       · show Act.put _ (some 22) _ = _
         simp only [Act.put, List.setIfInBounds_toArray, List.set_cons_zero, List.set_cons_succ, i64_w, i32_w]
         rfl
       refine pure_ (i := 16) (N := some 23) (v := ?_) (a' := ?_) #[true, true, true, true, true, true, true, true, true, true, true, true, true, true, true, true, true, false] rfl rfl (any_of HT_.out (by kernel_rfl)) (fun _ _ _ h => h) (Or.inl ⟨by rfl, ?_⟩) ?_ ?_
       rotate_left
       · intro w'
         go_simp
         with_reducible rfl
       rotate_left
       · simp only [Act.put, List.setIfInBounds_toArray, List.set_cons_zero, List.set_cons_succ, i64_w, i32_w]
         rfl
       refine one_ (i := 17) (N := none) #[true, true, true, true, true, true, true, true, true, true, true, true, true, true, true, true, true, true] rfl rfl (one_of HT_.out (by kernel_rfl)) (by decide) (fun K hK => ?_)
       have hs17 : w15.cell? ⟨gb473, 0, none⟩ = some (.int .i64 0) := (blk_cell BK473.out 0).trans rfl
       have hfs17 := blk_frozen BK473.out 0
       have hns17_0 := NB472_473.out
       have hms17_0 := NB473_472.out
       have hs18 : w15.cell? ⟨gb473, 1, none⟩ = some (.int .i64 0) := (blk_cell BK473.out 1).trans rfl
       have hfs18 := blk_frozen BK473.out 1
       have hns18_0 := NB472_473.out
       have hms18_0 := NB473_472.out
       have hs19 : w15.cell? ⟨gb473, 2, none⟩ = some (.slice none 0 0) := (blk_cell BK473.out 2).trans rfl
       have hfs19 := blk_frozen BK473.out 2
       have hns19_0 := NB472_473.out
       have hms19_0 := NB473_472.out
       refine skip_ (w1 := ?_) (by rfl) rfl ?_ ?_
       rotate_left
       · go_simp
         rfl
       refine hK.out _ _ ⟨((cell_far (p := ⟨gb473, _, none⟩) NB472_473.out _).trans (((cell_far (p := ⟨gb473, _, none⟩) NB472_473.out _).trans (((cell_far (p := ⟨gb473, _, none⟩) NB472_473.out _).trans (hHeld.1)))))), ((cell_far (p := ⟨gb473, _, none⟩) NB472_473.out _).trans (((cell_far (p := ⟨gb473, _, none⟩) NB472_473.out _).trans (((cell_far (p := ⟨gb473, _, none⟩) NB472_473.out _).trans (hHeld.2.1)))))), ((cell_far (p := ⟨gb473, _, none⟩) NB472_473.out _).trans (((cell_far (p := ⟨gb473, _, none⟩) NB472_473.out _).trans (((cell_far (p := ⟨gb473, _, none⟩) NB472_473.out _).trans (hHeld.2.2))))))⟩ (fun hHeld => ?_)
       clear hK K
       refine done_ (done_of HT_.out (by kernel_rfl)) ?_
       try go_wp2
       refine bodyPost_ret (results_cell_row rfl _ _ gb473 24 #[.int .i64 a1, .int .i64 t474, .slice Ao16 t476.length co16] (0, 0) _ rfl (by (with_reducible repeat (first | refine blk_drewN ?_ _ | refine blk_drew ?_ | refine blk_alloc ?_ _)); refine blk_put (cs := #[.int .i64 a1, .int .i64 t474, .slice none 0 0]) ?_ 2 _ rfl; (with_reducible repeat (first | refine blk_drewN ?_ _ | refine blk_drew ?_ | refine blk_alloc ?_ _)); refine blk_put (cs := #[.int .i64 a1, .int .i64 0, .slice none 0 0]) ?_ 1 _ rfl; (with_reducible repeat (first | refine blk_drewN ?_ _ | refine blk_drew ?_ | refine blk_alloc ?_ _)); refine blk_put (cs := #[.int .i64 0, .int .i64 0, .slice none 0 0]) ?_ 0 _ rfl; (with_reducible repeat (first | refine blk_drewN ?_ _ | refine blk_drew ?_ | refine blk_alloc ?_ _)); exact BK473.out) Try.underlying24 rfl (by kernel_rfl)) rfl ?_
       exact ⟨_, by first | rfl | (simp [errW_none, errW_some] <;> rfl) | (simp only [← hji5]; first | rfl | (simp [errW_none, errW_some] <;> rfl)) | (simp [*, errW_none, errW_some] <;> rfl), by (with_reducible repeat (first | apply Kd.R_alloc | apply Kd.R_drewN | apply Kd.R_drew)); exact Kd.R_mono (Kd.R_far (p := ⟨gb473, 2, none⟩) (Kd.R_far (p := ⟨gb473, 1, none⟩) (Kd.R_far (p := ⟨gb473, 0, none⟩) (Kd.R_types HO478.out BK473.out (by decide)) (fun _ hk => hk.2) (.int .i64 a1)) (fun _ hk => hk.2) (.int .i64 t474)) (fun _ hk => hk.2) (.slice Ao16 t476.length co16)) (fun _ hk => trivial), by repeat (first | (with_reducible first | exact HB.out | apply below_alloc | apply pw_below_drewN | apply below_drew1 | refine below_set ?_ GE472.out | refine below_set ?_ GE473.out) | exact HB.out)⟩
     · rw [if_neg c8] at H
       exact absurd H (by simp)
   · rw [if_neg c7] at H
     exact absurd H (by simp)
 · rw [if_neg c6] at H
   exact absurd H (by simp)
end Go.Proofs.Ytingjpcgehgiiaa.Pr
end
section
namespace Go.Proofs.Ytingjpcgehgiiaa.Pr
open Go.RowKit Go.Proofs.YtingjpcgehgiiaaW.PrintWords Go.Proofs.YtingjpcgehgiiaaW.PrintLast Go.Proofs.YtingjpcgehgiiaaW.PrintMore
set_option linter.unusedVariables false
set_option linter.unusedSimpArgs false
/-- The slopes of a part. -/
def sub (c : S24) (lo hi : Int) : List Int := (c.f2.take (hi - c.f0).toNat).drop (lo - c.f0).toNat
theorem sub_len {c : S24} {lo hi : Int} (h1 : inC c lo) (h2 : inC c hi) : (sub c lo hi).length = (hi - c.f0).toNat - (lo - c.f0).toNat := by
  obtain ⟨a, b⟩ := h1
  obtain ⟨a2, b2⟩ := h2
  unfold sub
  rw [List.length_drop, List.length_take]
  omega
theorem sub_mem {c : S24} {lo hi : Int} {s : Int} (h : s ∈ sub c lo hi) : s ∈ c.f2 := List.mem_of_mem_take (List.mem_of_mem_drop h)
theorem part_f {c : S24} (h : Vc c) {lo hi : Int} (h1 : inC c lo) (h2 : inC c hi) (h3 : lo ≤ hi) : curve_part.f c.f0 c.f1 c.f2 lo hi = some (lo, valC c lo, sub c lo hi) := by
  obtain ⟨v1, v2, v3, v4, v5, _, v7⟩ := vc_parts h
  have hv := at_val h h1
  obtain ⟨a1, b1⟩ := h1
  obtain ⟨a2, b2⟩ := h2
  have e1 : wrap64 (lo - c.f0) = lo - c.f0 := by clear hv; unfold wrap64; omega
  have e2 : wrap64 (hi - c.f0) = hi - c.f0 := by clear hv e1; unfold wrap64; omega
  have q1 : 0 ≤ lo - c.f0 := by clear hv e1 e2; omega
  have q2 : lo - c.f0 ≤ hi - c.f0 := by clear hv e1 e2; omega
  have q3 : hi - c.f0 ≤ (c.f2.length : Int) := by clear hv e1 e2; omega
  unfold curve_part.f
  have q4 : ((c.f2.take (hi - c.f0).toNat).drop (lo - c.f0).toNat).length ≤ 8796093022208 := by rw [List.length_drop, List.length_take]; clear hv e1 e2; omega
  rw [hv, Option.bind_some, e1, e2, if_pos q1, if_pos q2, if_pos q3]
  unfold clone_int.f
  rw [if_pos q4]
  rfl
def addC (a b : S24) (lo hi : Int) : S24 := ⟨lo, valC a lo + valC b lo, List.zipWith (fun x y => x + y) (sub a lo hi) (sub b lo hi)⟩
def toC (c : S24) : Int := c.f0 + (c.f2.length : Int)
def addOk (a b : S24) : Int × Int × List Int × Int :=
  if mn (toC a) (toC b) < mx a.f0 b.f0 then (0, 0, [], 6) else if Vc (addC a b (mx a.f0 b.f0) (mn (toC a) (toC b))) then ((addC a b (mx a.f0 b.f0) (mn (toC a) (toC b))).f0, (addC a b (mx a.f0 b.f0) (mn (toC a) (toC b))).f1, (addC a b (mx a.f0 b.f0) (mn (toC a) (toC b))).f2, 0) else (0, 0, [], 4)
def addR (a b : S24) : Int × Int × List Int × Int := if (validC a.f0 a.f1 a.f2 && validC b.f0 b.f1 b.f2) = true then addOk a b else (0, 0, [], 2)
def curve_Add.f (k : Nat) (a0_0 a0_1 : Int) (l0_2 : List Int) (a1_0 a1_1 : Int) (l1_2 : List Int) : Option (Int × Int × List Int × Int) := some (addR ⟨a0_0, a0_1, l0_2⟩ ⟨a1_0, a1_1, l1_2⟩)
theorem curve_Add.mono : ∀ a0 a1 a2 a3 a4 a5 k, LeO (curve_Add.f k a0 a1 a2 a3 a4 a5) (curve_Add.f (k + 1) a0 a1 a2 a3 a4 a5) := fun _ _ _ _ _ _ _ => LeO.refl _
/-- What the walk asks of a valid curve. -/
structure Adf (a0 a1 : Int) (l : List Int) : Prop where
  tto : curve_to.f a0 a1 l = some (a0 + (l.length : Int))
  part : ∀ lo hi : Int, inC ⟨a0, a1, l⟩ lo → inC ⟨a0, a1, l⟩ hi → lo ≤ hi → curve_part.f a0 a1 l lo hi = some (lo, valC ⟨a0, a1, l⟩ lo, sub ⟨a0, a1, l⟩ lo hi)
  val : ∀ x, -1099578736640 ≤ valC ⟨a0, a1, l⟩ x ∧ valC ⟨a0, a1, l⟩ x ≤ 1099578736640
  slope : ∀ s ∈ l, -1048576 ≤ s ∧ s ≤ 1048576
  len : l.length ≤ 64
theorem adf_of {a0 a1 : Int} {l : List Int} (h : validC a0 a1 l = true) : Adf a0 a1 l :=
  ⟨to_f (c := ⟨a0, a1, l⟩) h, fun lo hi h1 h2 h3 => part_f (c := ⟨a0, a1, l⟩) h h1 h2 h3, fun x => val_bound (c := ⟨a0, a1, l⟩) h x, (vc_parts (c := ⟨a0, a1, l⟩) h).2.2.2.2.2.2, (vc_parts (c := ⟨a0, a1, l⟩) h).2.2.2.2.1⟩
end Go.Proofs.Ytingjpcgehgiiaa.Pr
end
section
namespace Go.Proofs.Ytingjpcgehgiiaa.Pr
open Go.RowKit Go.Proofs.YtingjpcgehgiiaaW.PrintWords Go.Proofs.YtingjpcgehgiiaaW.PrintLast Go.Proofs.YtingjpcgehgiiaaW.PrintMore
set_option linter.unusedVariables false
set_option linter.unusedSimpArgs false
theorem same_loop (l : List Int) (hn : l.length ≤ 9223372036854775807) : ∀ (d i : Nat), l.length - i = d → Ev (fun k => kimberlitelaw03_same.l0 k l l (i : Int)) true
  | 0, i, h => Ev.step (f := fun _ => some true) (fun k => by simp only [kimberlitelaw03_same.l0]; rw [if_neg (by omega)]) (Ev.now _)
  | d + 1, i, h => by
    have ew : wrap64 ((i : Int) + 1) = ((i + 1 : Nat) : Int) := by unfold wrap64; omega
    refine Ev.step (fun k => ?_) (same_loop l hn d (i + 1) (by omega))
    simp only [kimberlitelaw03_same.l0]
    rw [if_pos (show (i : Int) < (l.length : Int) by omega), if_pos (show 0 ≤ (i : Int) by omega), if_pos (show (i : Int) < (l.length : Int) by omega), if_pos trivial, ew]
theorem same_ev (l : List Int) (hn : l.length ≤ 9223372036854775807) : Ev (fun k => kimberlitelaw03_same.f k l l) true := by
  unfold kimberlitelaw03_same.f
  exact Ev.congr (fun k => if_pos rfl) (same_loop l hn _ 0 rfl)
theorem alike_ev (a0 a1 : Int) (l : List Int) (hn : l.length ≤ 9223372036854775807) : Ev (fun k => kimberlitelaw03_alike.f k a0 a1 l a0 a1 l) true := by
  unfold kimberlitelaw03_alike.f
  exact Ev.congr (fun k => if_pos rfl) (Ev.congr (fun k => if_pos rfl) (Ev.bind (same_ev l hn) (Ev.now _)))
theorem Ev.two {α : Type} {g f : Nat → Option α} {r : α} (h : ∀ k, g (k + 2) = f k) (k : Ev f r) : Ev g r := by
  obtain ⟨K, hK⟩ := k
  refine ⟨K + 2, fun n hn => ?_⟩
  obtain ⟨m, rfl⟩ : ∃ m, n = m + 2 := ⟨n - 2, by omega⟩
  rw [h]
  exact hK m (by omega)
end Go.Proofs.Ytingjpcgehgiiaa.Pr
end
section
namespace Go.Proofs.Ytingjpcgehgiiaa.Pr
open Go.RowKit Go.ChangeShapes Go.WideShapes Go.Deep Go.Joins Go.Proofs.YtingjpcgehgiiaaW.PrintWords Go.Proofs.YtingjpcgehgiiaaW.PrintLast Go.Proofs.YtingjpcgehgiiaaW.PrintMore
set_option linter.unusedVariables false
set_option linter.unusedSimpArgs false
section
variable {H : Type} {enc : TypeId × Value → H} {W : World}
/-- All numbers of a curve are int64s. -/
def okC (x : S24) : Prop := (Lit.int .i64 x.f0).wf = true ∧ (Lit.int .i64 x.f1).wf = true ∧ ∀ s ∈ x.f2, (Lit.int .i64 s).wf = true
set_option maxRecDepth 100000 in
theorem nums_fuel {fuel : Nat} {v : Value} {y : DataW H × List MemPlace} (hf : DataW.trod enc Try.prog W 0 (fun _ => true) true fuel 22 [v] = some y) :
    ∃ (a : Option Addr) (cap : Nat) (l : List Int), v = .slice a l.length cap ∧ l.length ≤ cap ∧ Kd.C (Kd.int .i64) W a l.length l ∧ ∀ x ∈ l, (Lit.int .i64 x).wf = true := by
  rcases open_slice Try.underlying22 hf with ⟨hcs, _⟩ | ⟨ad, len, cap, m, n, D, Pl, hcs, _, hl, hm, hmm, _, hi⟩
  · simp at hcs
    subst hcs
    exact ⟨none, 0, [], rfl, by simp, ⟨rfl, by simp, fun h => absurd h (by simp)⟩, fun x hx => absurd hx (by simp)⟩
  · simp at hcs
    subst hcs
    have hC : Try.prog.cellsOf 3 = 1 := by kernel_rfl
    have key : ∀ i, i < len → ∃ x : Int, (Lit.int .i64 x).wf = true ∧ W.cell? (ad.add i) = some (.int .i64 x) := by
      intro i hil
      obtain ⟨cs', hc, ht'⟩ := hi i (by rw [hmm]; simp; omega)
      rw [hC] at hc
      obtain ⟨_, hcl, hat⟩ := World.cells?_some hc
      match cs', hcl with
      | [c0], _ =>
        obtain ⟨a0, e0, _, w0⟩ := DataW.trod_int Try.underlying3 ht'
        simp at e0
        subst e0
        have h0 := hat 0 (by omega)
        rw [Deep.add_add] at h0
        exact ⟨a0, w0, by simpa using h0⟩
    obtain ⟨f, hf⟩ := choose_lt key
    refine ⟨some ad, cap, (List.range len).map f, by simp, by simpa using hl, ⟨by simp, by simp; simp only [maxLen] at hm; omega, fun _ => ⟨ad, rfl, fun j x hj => ?_⟩⟩, ?_⟩
    · obtain ⟨hjl, hx⟩ := List.getElem?_eq_some_iff.1 hj
      have hjl' : j < len := by simpa using hjl
      simp at hx
      subst hx
      obtain ⟨_, h0⟩ := hf j hjl'
      refine ⟨[.int .i64 (f j)], rfl, rfl, fun i u hu => ?_⟩
      match i, hu with
      | 0, hu => simp at hu; subst hu; simpa [show (Kd.int .i64).sz = 1 from rfl] using h0
      | i + 1, hu => simp at hu
    · intro x hx
      obtain ⟨j, hj, rfl⟩ := List.mem_map.1 hx
      exact (hf j (by simpa using hj)).1
set_option maxRecDepth 100000 in
theorem open_curve {b0 : Nat} {v : Value} {d : DataW H} {p : List MemPlace} (hv : Value.okWide Try.prog W .any b0 24 v) (h : DataW.Trod enc Try.prog W 0 (fun _ => true) true 24 v d p) :
    ∃ (x : S24) (a : Option Addr) (cap : Nat), v = .agg #[.int .i64 x.f0, .int .i64 x.f1, .slice a x.f2.length cap] ∧ x.f2.length ≤ cap ∧ Kd.C (Kd.int .i64) W a x.f2.length x.f2 ∧ okC x := by
  obtain ⟨c0, c1, c2, y0, y1, y2, m, rfl, rfl, rfl, hy0, hy1, hy2⟩ := open_agg3 Try.underlying24 (by kernel_rfl) (by kernel_rfl) hv h
  dsimp only at hy0 hy1 hy2
  obtain ⟨a0, e0, _, w0⟩ := DataW.trod_int Try.underlying3 hy0
  obtain ⟨a1, e1, _, w1⟩ := DataW.trod_int Try.underlying3 hy1
  obtain ⟨a2, cap, l, e2, h1, h2, h3⟩ := nums_fuel hy2
  simp at e0 e1
  subst e0 e1 e2
  exact ⟨⟨a0, a1, l⟩, a2, cap, rfl, h1, h2, w0, w1, h3⟩
end
end Go.Proofs.Ytingjpcgehgiiaa.Pr
end
section
namespace Go.Proofs.Ytingjpcgehgiiaa.Pr
open Go.RowKit Go.Shelf Go.Proofs.YtingjpcgehgiiaaW.PrintWords Go.Proofs.YtingjpcgehgiiaaW.PrintLast Go.Proofs.YtingjpcgehgiiaaW.PrintMore
set_option linter.unusedVariables false
set_option linter.unusedSimpArgs false
theorem info67 : (Try.prog.info? 67).map (fun i => (i.zero, i.size, i.bytes)) = some (some (.pointer none), 1, 8) := by kernel_rfl
def loS (l : List S24) : Int := (l.map (fun c => c.f0)).sum
def hiS (l : List S24) : Int := (l.map (fun c => c.f0 + (c.f2.length : Int))).sum
def mkSh (l : List S24) : Shr := l.map (fun c => (c, c.f0))
def AllV (l : List S24) : Prop := ∀ c ∈ l, validC c.f0 c.f1 c.f2 = true
theorem sums_bound : ∀ (l : List S24), AllV l → -(1048576 * (l.length : Int)) ≤ loS l ∧ loS l ≤ 1048576 * (l.length : Int) ∧ loS l ≤ hiS l ∧ hiS l ≤ 1048640 * (l.length : Int)
  | [], _ => by simp [loS, hiS]
  | c :: t, h => by
    have ih := sums_bound t (fun c hc => h c (List.mem_cons_of_mem _ hc))
    obtain ⟨v1, v2, _, _, v5, _⟩ := validC_parts (h c List.mem_cons_self)
    simp only [loS, hiS, List.map_cons, List.sum_cons, List.length_cons] at ih ⊢
    push_cast
    omega
theorem take_snoc (l : List S24) (k : Nat) (h : k < l.length) : l.take (k + 1) = l.take k ++ [l.getD k z24] := by
  rw [List.take_add_one, List.getElem?_eq_getElem h, List.getD_eq_getElem?_getD, List.getElem?_eq_getElem h]
  rfl
theorem loS_succ (l : List S24) (k : Nat) (h : k < l.length) : loS (l.take (k + 1)) = loS (l.take k) + (l.getD k z24).f0 ∧ hiS (l.take (k + 1)) = hiS (l.take k) + ((l.getD k z24).f0 + ((l.getD k z24).f2.length : Int)) := by
  rw [take_snoc l k h]
  simp only [loS, hiS, List.map_append, List.sum_append, List.map_cons, List.map_nil, List.sum_cons, List.sum_nil]
  omega
theorem mkSh_succ (l : List S24) (k : Nat) (h : k < l.length) : mkSh (l.take (k + 1)) = mkSh (l.take k) ++ [((l.getD k z24), (l.getD k z24).f0)] := by
  rw [take_snoc l k h]
  simp only [mkSh, List.map_append, List.map_cons, List.map_nil]
theorem allV_take {l : List S24} (h : AllV l) (k : Nat) : AllV (l.take k) := fun c hc => h c (List.mem_of_mem_take hc)
/-- A share's block; its curve's slopes are read in the world where the call began. -/
def ShareIn (w W : World) (b : Nat) (p : S24 × Int) : Prop := ∃ A cap, W.heap[b]? = some (.cells #[.int .i64 p.1.f0, .int .i64 p.1.f1, .slice A p.1.f2.length cap, .int .i64 p.2] 69 (0, 0)) ∧ p.1.f2.length ≤ cap ∧ Kd.C (Kd.int .i64) w A p.1.f2.length p.1.f2
/-- The shares of a call's own. -/
def Own (w W : World) (v : Value) (sh : Shr) : Prop := ∃ bs : List Nat, Kd.R kP 67 W w.heap.size (fun _ => True) v bs ∧ bs.length = sh.length ∧ (∀ i, i < sh.length → ShareIn w W (bs.getD i 0) (sh.getD i zS)) ∧ (∀ b ∈ bs, w.heap.size ≤ b) ∧ bs.Nodup
theorem Own.nil (w W : World) : Own w W (.slice none 0 0) [] := ⟨[], Kd.R_nil _ _ _ _ _, rfl, fun i hi => by simp at hi, fun b hb => by simp at hb, List.nodup_nil⟩
theorem ShareIn.below {w W W' : World} {b : Nat} {p : S24 × Int} (h : ShareIn w W b p) (hb : Below W.heap.size W W') : ShareIn w W' b p := by
  obtain ⟨A, cap, h1, h2, h3⟩ := h
  exact ⟨A, cap, blk_below h1 hb, h2, h3⟩
theorem Own.below {w W W' : World} {v : Value} {sh : Shr} (h : Own w W v sh) (hb : Below W.heap.size W W') : Own w W' v sh := by
  obtain ⟨bs, h1, h2, h3, h4, h5⟩ := h
  exact ⟨bs, Kd.R_below h1 hb, h2, fun i hi => (h3 i hi).below hb, h4, h5⟩
/-- One share more. -/
theorem Own.snoc {w W W' : World} {v v' : Value} {bs : List Nat} {sh : Shr} {p : S24 × Int} {nb : Nat} {A : Option Addr} {cap : Nat}
    (ho : Kd.R kP 67 W w.heap.size (fun _ => True) v bs) (hl : bs.length = sh.length) (hs : ∀ i, i < sh.length → ShareIn w W (bs.getD i 0) (sh.getD i zS)) (hb : ∀ b ∈ bs, w.heap.size ≤ b) (hn : bs.Nodup)
    (hnb : W.heap[nb]? = some (.cells #[.int .i64 p.1.f0, .int .i64 p.1.f1, .slice A p.1.f2.length cap, .int .i64 p.2] 69 (0, 0))) (hcap : p.1.f2.length ≤ cap) (hC : Kd.C (Kd.int .i64) w A p.1.f2.length p.1.f2) (hw : w.heap.size ≤ nb) (hnew : ∀ b ∈ bs, b ≠ nb)
    (hown : W'.ownsRow w.heap.size 67 1 v' (bs.length + 1) (encs (fun b => .pointer (some ⟨b, 0, none⟩)) bs ++ [.pointer (some ⟨nb, 0, none⟩)])) (hg : W.grownBy W' v.ownBlock) : Own w W' v' (sh ++ [p]) := by
  have keep : ∀ (k : Nat) (cs : Array Value), W.heap[k]? = some (Obj.cells cs 69 (0, 0)) → W'.heap[k]? = some (Obj.cells cs 69 (0, 0)) := fun k cs hk => by
    refine (hg.block k (Array.getElem?_eq_some_iff.1 hk).1 (fun e => ?_)).trans hk
    obtain ⟨cells, hc⟩ := own_typed ho.2.choose_spec.1 k e.symm
    rw [hk] at hc
    cases hc
  refine ⟨bs ++ [nb], Kd.R_of_own (by simpa [encs] using hown) (fun _ _ => trivial), by simp [hl], fun i hi => ?_, fun b hb' => ?_, ?_⟩
  · by_cases h : i < sh.length
    · obtain ⟨A', cap', h1, h2, h3⟩ := hs i h
      have e1 : (bs ++ [nb]).getD i 0 = bs.getD i 0 := by rw [List.getD_eq_getElem?_getD, List.getD_eq_getElem?_getD, List.getElem?_append_left (by omega)]
      have e2 : (sh ++ [p]).getD i zS = sh.getD i zS := by rw [List.getD_eq_getElem?_getD, List.getD_eq_getElem?_getD, List.getElem?_append_left (by omega)]
      rw [e1, e2]
      exact ⟨A', cap', keep _ _ h1, h2, h3⟩
    · obtain rfl : i = sh.length := by simp at hi; omega
      have e1 : (bs ++ [nb]).getD sh.length 0 = nb := by rw [List.getD_eq_getElem?_getD, ← hl]; simp
      have e2 : (sh ++ [p]).getD sh.length zS = p := by rw [List.getD_eq_getElem?_getD]; simp
      rw [e1, e2]
      exact ⟨A, cap, keep _ _ hnb, hcap, hC⟩
  · rcases List.mem_append.1 hb' with hb' | hb'
    · exact hb b hb'
    · rw [List.mem_singleton.1 hb']; exact hw
  · rw [List.nodup_append]
    exact ⟨hn, by simp, fun a ha b hb' => by rw [List.mem_singleton.1 hb']; exact hnew a ha⟩
theorem nodup_getD {bs : List Nat} (hn : bs.Nodup) {i j : Nat} (hi : i < bs.length) (hj : j < bs.length) (hij : i ≠ j) : bs.getD i 0 ≠ bs.getD j 0 := by
  rw [List.getD_eq_getElem?_getD, List.getD_eq_getElem?_getD, List.getElem?_eq_getElem hi, List.getElem?_eq_getElem hj]
  simp only [Option.getD_some]
  intro e
  exact hij ((List.getElem_inj hn).1 e)
/-- The share j moves on by one. -/
theorem Own.grow {w W : World} {v : Value} {bs : List Nat} {sh : Shr} {j : Nat} (ho : Kd.R kP 67 W w.heap.size (fun _ => True) v bs) (hl : bs.length = sh.length) (hs : ∀ i, i < sh.length → ShareIn w W (bs.getD i 0) (sh.getD i zS)) (hb : ∀ b ∈ bs, w.heap.size ≤ b) (hn : bs.Nodup) (hj : j < sh.length) :
    Own w (W.setCell ⟨bs.getD j 0, 3, none⟩ (.int .i64 ((sh.getD j zS).2 + 1))) v (growAt sh j) := by
  obtain ⟨A, cap, h1, h2, h3⟩ := hs j hj
  refine ⟨bs, Kd.R_mono (Kd.R_far (p := ⟨bs.getD j 0, 3, none⟩) (Kd.R_types ho h1 (by decide)) (fun _ hk => hk.2) _) (fun _ _ => trivial), by rw [growAt_len]; exact hl, fun i hi => ?_, hb, hn⟩
  rw [growAt_len] at hi
  by_cases e : i = j
  · subst e
    have eg : (growAt sh i).getD i zS = ((sh.getD i zS).1, (sh.getD i zS).2 + 1) := by
      unfold growAt
      rw [List.getD_eq_getElem?_getD, List.getElem?_set_self hj]
      rfl
    rw [eg]
    exact ⟨A, cap, blk_put h1 3 _ rfl, h2, h3⟩
  · have eg : (growAt sh j).getD i zS = sh.getD i zS := by
      unfold growAt
      rw [List.getD_eq_getElem?_getD, List.getElem?_set_ne (fun h => e h.symm), ← List.getD_eq_getElem?_getD]
    rw [eg]
    obtain ⟨A', cap', g1, g2, g3⟩ := hs i hi
    exact ⟨A', cap', (Below.heap_setCell W ⟨bs.getD j 0, 3, none⟩ _ (bs.getD i 0) (nodup_getD hn (by omega) (by omega) e)).trans g1, g2, g3⟩
theorem mkSh_facts : ∀ (l : List S24), AllV l → GoodS (mkSh l) ∧ sumX (mkSh l) = loS l ∧ sumHi (mkSh l) = hiS l
  | [], _ => ⟨fun p hp => (by simp [mkSh] at hp), rfl, rfl⟩
  | c :: t, h => by
    obtain ⟨i1, i2, i3⟩ := mkSh_facts t (fun c hc => h c (List.mem_cons_of_mem _ hc))
    refine ⟨fun p hp => ?_, ?_, ?_⟩
    · rcases List.mem_cons.1 (show p ∈ (c, c.f0) :: mkSh t from hp) with rfl | hp
      · exact ⟨h c List.mem_cons_self, Int.le_refl _, by simp only; omega⟩
      · exact i1 p hp
    · simp only [sumX, mkSh, loS, List.map_cons, List.sum_cons] at i2 ⊢
      rw [i2]
    · simp only [sumHi, mkSh, hiS, List.map_cons, List.sum_cons] at i3 ⊢
      rw [i3]
/-- What is said of the shares while the total is divided. -/
def Mid (l : List S24) (a1 : Int) (n : Nat) (sh : Shr) : Prop := GoodS sh ∧ sumX sh = loS l + n ∧ sumHi sh = hiS l ∧ fillS ((a1 - loS l).toNat - n) sh = fillS (a1 - loS l).toNat (mkSh l)
theorem shares_of {w W : World} {bs : List Nat} {sh : Shr} (hB : Below w.heap.size w W) (hl : bs.length = sh.length) (hs : ∀ i, i < sh.length → ShareIn w W (bs.getD i 0) (sh.getD i zS)) (hg : GoodS sh) : Shares W bs sh :=
  ⟨hl, fun i hi => by
    obtain ⟨A, cap, h1, h2, h3⟩ := hs i hi
    obtain ⟨e, e1, _⟩ := good_off (hg _ (getD_mem sh i hi))
    exact ⟨⟨A, cap, h1, h2, Kd.C_below h3 hB⟩, by rw [e]; exact e1⟩⟩
theorem Mid.step {l : List S24} {a1 : Int} {n : Nat} {sh : Shr} {j : Nat} (h : Mid l a1 n sh) (hlt : loS l + n < a1) (hj : j < sh.length) (hb : (bestTo sh sh.length).1 = (j : Int)) (hx : (sh.getD j zS).2 < (sh.getD j zS).1.f0 + ((sh.getD j zS).1.f2.length : Int)) : Mid l a1 (n + 1) (growAt sh j) := by
  obtain ⟨h1, h2, h3, h4⟩ := h
  obtain ⟨g1, g2⟩ := growAt_sum sh j hj
  refine ⟨growAt_good sh j h1 hj hx, by rw [g1, h2]; push_cast; omega, by rw [g2, h3], ?_⟩
  rw [← h4]
  have e : (a1 - loS l).toNat - n = ((a1 - loS l).toNat - (n + 1)) + 1 := by omega
  rw [e]
  show _ = fillS _ (growAt sh (bestTo sh sh.length).1.toNat)
  rw [hb, Int.toNat_natCast]
theorem shares_new {w W : World} {bs : List Nat} {sh : Shr} {n : Nat} (hl : bs.length = sh.length) (hs : ∀ i, i < sh.length → ShareIn w W (bs.getD i 0) (sh.getD i zS)) (hn : W.heap.size ≤ n) : ∀ b ∈ bs, b ≠ n := by
  intro b hb
  obtain ⟨i, hi, rfl⟩ := List.mem_iff_getElem.1 hb
  obtain ⟨A, cap, h1, _⟩ := hs i (by omega)
  have h2 := (Array.getElem?_eq_some_iff.1 h1).1
  rw [List.getD_eq_getElem?_getD, List.getElem?_eq_getElem hi] at h2
  simp only [Option.getD_some] at h2
  omega
theorem blk_row {W W' : World} {base g : Nat} {v : Value} {bs : List Nat} {cs : Array Value} (hR : Kd.R kP 67 W base (fun _ => True) v bs) (BK : W.heap[g]? = some (.cells cs 24 (0, 0))) (hg : W.grownBy W' v.ownBlock) : W'.heap[g]? = some (.cells cs 24 (0, 0)) := by
  refine (hg.block g (Array.getElem?_eq_some_iff.1 BK).1 (fun e => ?_)).trans BK
  obtain ⟨cells, hc⟩ := own_typed hR.2.choose_spec.1 g e.symm
  rw [BK] at hc
  cases hc
/-- The world behind the box of a curve, the share's block and the literal of one pointer. -/
def box4 (w2 : World) (g : Nat) (x y : Int) (sl : Value) : World := ((((w2.setCell ⟨g, 0, none⟩ (.int .i64 x)).setCell ⟨g, 1, none⟩ (.int .i64 y)).setCell ⟨g, 2, none⟩ sl).alloc (.cells #[.int .i64 x, .int .i64 y, sl, .int .i64 x] 69)).alloc (.cells #[.pointer (some ⟨w2.heap.size, 0, none⟩)] 67)
theorem box4_facts {wr w2 : World} {g : Nat} {x y : Int} {sl a b c : Value} (BL : Below wr.heap.size wr w2) (GE : wr.heap.size ≤ g) (BK : w2.heap[g]? = some (.cells #[a, b, c] 24 (0, 0))) :
    Below wr.heap.size wr (box4 w2 g x y sl) ∧ (box4 w2 g x y sl).heap[g]? = some (.cells #[.int .i64 x, .int .i64 y, sl] 24 (0, 0)) ∧ (box4 w2 g x y sl).heap[w2.heap.size]? = some (.cells #[.int .i64 x, .int .i64 y, sl, .int .i64 x] 69 (0, 0)) ∧ (box4 w2 g x y sl).heap[w2.heap.size + 1]? = some (.cells #[.pointer (some ⟨w2.heap.size, 0, none⟩)] 67 (0, 0)) := by
  unfold box4
  have h3 := blk_put (blk_put (blk_put BK 0 (.int .i64 x) rfl) 1 (.int .i64 y) rfl) 2 sl rfl
  have hb := below_set (j := 2) (v := sl) (below_set (j := 1) (v := .int .i64 y) (below_set (j := 0) (v := .int .i64 x) BL GE) GE) GE
  have hsz : (((w2.setCell ⟨g, 0, none⟩ (.int .i64 x)).setCell ⟨g, 1, none⟩ (.int .i64 y)).setCell ⟨g, 2, none⟩ sl).heap.size = w2.heap.size := by simp [World.setCell]
  generalize ((w2.setCell ⟨g, 0, none⟩ (.int .i64 x)).setCell ⟨g, 1, none⟩ (.int .i64 y)).setCell ⟨g, 2, none⟩ sl = S at h3 hsz hb
  have n1 := blk_new S (.cells #[.int .i64 x, .int .i64 y, sl, .int .i64 x] 69)
  have n2 := blk_new (S.alloc (.cells #[.int .i64 x, .int .i64 y, sl, .int .i64 x] 69)) (.cells #[.pointer (some ⟨w2.heap.size, 0, none⟩)] 67)
  rw [World.size_alloc] at n2
  rw [hsz] at n1 n2
  exact ⟨below_alloc (below_alloc hb _) _, blk_alloc (blk_alloc h3 _) _, blk_alloc n1 _, n2⟩
theorem Own.grown {w W W' : World} {v u : Value} {sh : Shr} {xs : List Int} (h : Own w W v sh) (hu : Kd.R (Kd.int .i64) 3 W w.heap.size (fun _ => True) u xs) (hg : W.grownBy W' u.ownBlock) : Own w W' v sh := by
  obtain ⟨bs, h1, h2, h3, h4, h5⟩ := h
  refine ⟨bs, Kd.R_mono (Kd.R_grown (Kd.R_bound h1) hg (fun k hk => ?_)) (fun _ _ => trivial), h2, fun i hi => ?_, h4, h5⟩
  · obtain ⟨_, _, _, q, hq, cells, hc⟩ := hk
    refine Kd.R_ne hu hc ?_
    rcases List.mem_cons.1 hq with rfl | hq
    · decide
    · exact absurd hq (List.not_mem_nil)
  · obtain ⟨A, cap, g1, g2, g3⟩ := h3 i hi
    exact ⟨A, cap, blk_grown g1 hg (Kd.R_ne hu g1 (by decide)), g2, g3⟩
/-- What Split makes of a list of valid curves. -/
def splitOk (l : List S24) (a1 : Int) : List Int × Int × Int × Int :=
  if a1 < loS l then ([], 0, 0, 10) else if hiS l < a1 then ([], 0, 0, 10) else
    let sh := fillS (a1 - loS l).toNat (mkSh l)
    (sh.map (fun p => p.2), sumTo sh sh.length, priceTo sh sh.length, 0)
def SplitPost (w : World) (r : List Int × Int × Int × Int) (e : Ending) (w' : World) : Prop := ∃ v : Value, e = .returned (.tuple #[v, .int .i64 r.2.1, .int .i64 r.2.2.1, .int .i64 r.2.2.2]) ∧ Kd.R (Kd.int .i64) 3 w' w.heap.size (fun _ => True) v r.1 ∧ Below w.heap.size w w'
theorem SplitPost.err {w W : World} {r : List Int × Int × Int × Int} (n : Int) (hr : r = ([], 0, 0, n)) (hb : Below w.heap.size w W) : SplitPost w r (.returned (.tuple #[.slice none 0 0, .int .i64 0, .int .i64 0, .int .i64 n])) W := by
  subst hr
  exact ⟨_, rfl, Kd.R_nil _ _ _ _ _, hb⟩
theorem SplitPost.ok {w W : World} {r : List Int × Int × Int × Int} {xs : List Int} {a b n : Int} {v : Value} (hr : r = (xs, a, b, n)) (ho : Kd.R (Kd.int .i64) 3 W w.heap.size (fun _ => True) v xs) (hb : Below w.heap.size w W) : SplitPost w r (.returned (.tuple #[v, .int .i64 a, .int .i64 b, .int .i64 n])) W := by
  subst hr
  exact ⟨_, rfl, ho, hb⟩
set_option maxHeartbeats 8000000 in
set_option maxRecDepth 100000 in
theorem curve_Split.go (A0 : Option Addr) (c0 : Nat) (l0 : List S24) (a1 : Int) (w : World) (hr0 : Kd.C k24 w A0 l0.length l0) (hc0 : l0.length ≤ c0) (hn : l0.length ≤ 8) (h0 : 0 < l0.length) (hv : AllV l0) (R : Ending → World → Prop) (hR : ∀ e w', SplitPost w (splitOk l0 a1) e w' → R e w') :
    Calls Try.prog 19 #[.slice A0 l0.length c0, .int .i64 a1] w R := by
  have hz : ((l0.length : Int) == 0) = false := by rw [beq_eq_false_iff_ne]; omega
  have h8 : ¬ (8 : Int) < (l0.length : Int) := by omega
  have hany : l0.any (fun x => !validC x.f0 x.f1 x.f2) = false := by
    rw [List.any_eq_false]
    intro c hc
    rw [hv c hc]
    decide
  have HR := Aside0.mk hr0
  have HN := Aside0.mk hn
  have HV := Aside0.mk hv
  have HRR := Aside0.mk hR
  have HC := Aside0.mk (containsFunc_curve 57 #[] _ enter57 A0 c0 l0 w hr0 (pred_valid w))
  rw [hany] at HC
  clear hr0 hn hv hany hR
  have hu24 := Try.underlying24
  have hu69 := Try.underlying69
  go_enter Try.func19, Try.ntmps19
  go_wp2_with (go_at_call 56; (with_reducible refine HC.out.mono ?_); rintro e w1 ⟨rfl, hb1⟩; have HB1 := Aside0.mk hb1; clear hb1)
  go_loopg [8, 9, 10, 32] l0.length (fun gg v8 v9 v10 v32 wr => ∃ kk : Nat, kk ≤ l0.length ∧ l0.length - kk ≤ gg ∧ v32 = .int .i64 kk ∧ v9 = .int .i64 (loS (l0.take kk)) ∧ v10 = .int .i64 (hiS (l0.take kk)) ∧ Aside0 (Own w wr v8 (mkSh (l0.take kk))) ∧ Aside0 (Below w.heap.size w wr))
  case atStart => exact ⟨0, Nat.zero_le _, by omega, rfl, by simp [loS], by simp [hiS], ⟨Own.nil w w1⟩, HB1⟩
  case round =>
    obtain ⟨kk, hkk, hg, rfl, rfl, rfl, HO, HB⟩ := hrel
    have hm2 : l0.length ≤ 9223372036854775807 := by have := HN.out; omega
    by_cases hlt : kk < l0.length
    · have hltz : (kk : Int) < (l0.length : Int) := by omega
      obtain ⟨ad, A2, c2, e, hx0, hx1, hx2, hl2, hc2⟩ := at_T24 HR.out (kk : Int) (by omega) hltz
      subst e
      have er : rd_T24 l0 (kk : Int) = l0.getD kk z24 := by unfold rd_T24; rw [Int.toNat_natCast]
      rw [er] at hx0 hx1 hx2 hl2 hc2
      rw [Int.toNat_natCast] at hx0 hx1 hx2
      clear er
      generalize hy : l0.getD kk z24 = y at hx0 hx1 hx2 hl2 hc2
      have HY := Aside0.mk hy
      clear hy
      replace hx0 := (HB.out.cell (World.block_lt_of_cell? w _ hx0)).trans hx0
      replace hx1 := (HB.out.cell (World.block_lt_of_cell? w _ hx1)).trans hx1
      replace hx2 := (HB.out.cell (World.block_lt_of_cell? w _ hx2)).trans hx2
      have HL2 := Aside0.mk hl2
      obtain ⟨bs, o1, o2, o3, o4, o5⟩ := HO.out
      obtain ⟨Av, cv, ev⟩ := Kd.R_slice o1
      subst ev
      have O1 := Aside0.mk o1
      have O2 := Aside0.mk o2
      have O3 := Aside0.mk o3
      have O4 := Aside0.mk o4
      have O5 := Aside0.mk o5
      have HC2 := Aside0.mk hc2
      have hbl : bs.length ≤ 8 := by rw [o2]; simp [mkSh]; have := HN.out; omega
      have HBL := Aside0.mk hbl
      obtain ⟨i0, hi, hiz, his, hib⟩ := info_parts info67
      clear o1 o2 o3 o4 o5 hc2 hbl HO
      go_wp2_with (first | ((with_reducible refine gate_dst (N := 12) rfl ?_); refine box_event ?hg (N := 12) ?hd (cs := #[.int .i64 0, .int .i64 0, .slice none 0 0]) (t := 24) ?hr ?_; (case hd => rfl); (case hg => rfl); (case hr => first | (go_simp; done) | (go_simp; rfl)); intro g12 hg12 w2 hbox hb; have BL2 := Aside0.mk hb; have BK2 := Aside0.mk hbox; have GE2 := Aside0.mk (show wr.heap.size ≤ g12 by rw [hg12]; exact Nat.le_refl _); clear hb hg12; have ha0 : w2.cell? ⟨g12, 0, none⟩ = some (.int .i64 0) := (blk_cell hbox 0).trans rfl; have haf0 := blk_frozen hbox 0; have ha1 : w2.cell? ⟨g12, 1, none⟩ = some (.int .i64 0) := (blk_cell hbox 1).trans rfl; have haf1 := blk_frozen hbox 1; have ha2 : w2.cell? ⟨g12, 2, none⟩ = some (.slice none 0 0) := (blk_cell hbox 2).trans rfl; have haf2 := blk_frozen hbox 2; clear hbox) | (at_builtin; have F := box4_facts (x := y.f0) (y := y.f1) (sl := .slice A2 y.f2.length c2) BL2.out GE2.out BK2.out; unfold box4 at F; obtain ⟨F1, F2, F3, F4⟩ := F; refine wpList_append_own _ rfl (.tmp 36) (.tmp 42) 66 rfl w.heap.size 67 i0 (.pointer none) 1 8 Try.underlying66 hi hiz his hib rfl (by decide) _ bs.length (encs (fun b => .pointer (some ⟨b, 0, none⟩)) bs) rfl ?ow ⟨w2.heap.size + 1, 0, none⟩ 1 1 [.pointer (some ⟨w2.heap.size, 0, none⟩)] rfl rfl ?nw (by simp [Value.oneCell']) (by have := HBL.out; unfold maxLen; omega) (by have := HBL.out; omega) ?bb ?_; (case nw => (intro j u h; rcases j with _ | j; (simp at h; subst h; exact (blk_cell F4 0).trans rfl); (simp at h))); (case bb => exact Nat.le_trans HB.out.size F1.size); (case ow => exact Kd.own_of_R (Kd.R_below O1.out F1)); intro v5 w5 hown hg5 _; have HO5 := Aside0.mk (Own.snoc (p := (y, y.f0)) (Kd.R_below O1.out F1) O2.out (fun i hi => (O3.out i hi).below F1) O4.out O5.out F3 HL2.out HC2.out (Nat.le_trans HB.out.size BL2.out.size) (shares_new O2.out O3.out BL2.out.size) hown hg5); have HB5 := Aside0.mk ((below_then HB.out HB.out.size F1).grown hg5 (Nat.le_trans HB.out.size F1.size) (fun k hk => Kd.R_base O1.out k hk)); have BK5 := Aside0.mk (blk_row (Kd.R_below O1.out F1) F2 hg5); clear hown hg5 F1 F2 F3 F4 O1 O2 O3 O4 O5 ha0 ha1 ha2 haf0 haf1 haf2; have hb0 : w5.cell? ⟨g12, 0, none⟩ = some (.int .i64 y.f0) := (blk_cell BK5.out 0).trans rfl; have hb1 : w5.cell? ⟨g12, 1, none⟩ = some (.int .i64 y.f1) := (blk_cell BK5.out 1).trans rfl; have hb2 : w5.cell? ⟨g12, 2, none⟩ = some (.slice A2 y.f2.length c2) := (blk_cell BK5.out 2).trans rfl))
      have hvy : validC y.f0 y.f1 y.f2 = true := by rw [← HY.out]; exact HV.out _ (by rw [List.getD_eq_getElem?_getD, List.getElem?_eq_getElem hlt]; exact List.getElem_mem hlt)
      have hsb := sums_bound (l0.take kk) (allV_take HV.out kk)
      have hlk : (l0.take kk).length ≤ 8 := by rw [List.length_take]; have := HN.out; omega
      obtain ⟨v1, v2, _, _, v5', _⟩ := validC_parts hvy
      have hss := loS_succ l0 kk hlt
      have hmk := mkSh_succ l0 kk hlt
      rw [HY.out] at hss hmk
      have hw1 : IntKind.i64.wrap (loS (l0.take kk) + y.f0) = loS (l0.take (kk + 1)) := by rw [i64_w, hss.1]; unfold wrap64; omega
      have hw2 : IntKind.i64.wrap (hiS (l0.take kk) + wrap64 (y.f0 + (y.f2.length : Int))) = hiS (l0.take (kk + 1)) := by rw [i64_w, hss.2]; unfold wrap64; omega
      have HMK := Aside0.mk hmk
      clear hvy hsb hlk v1 v2 v5' hss hmk
      go_wp2_with (go_at_call 58; (with_reducible refine (curve_to.calls y.f0 y.f1 _ _ y.f2 _ _ (Kd.C_below HC2.out HB5.out) HL2.out rfl).mono ?_); rintro e w6 ⟨rfl, hb6⟩)
      go_roundg (l0.length - (kk + 1))
      case measure => omega
      case rel => exact ⟨kk + 1, by omega, by omega, by go_num, by rw [← i64_w, hw1], rfl, ⟨by rw [HMK.out]; exact HO5.out.below hb6⟩, ⟨below_then HB5.out HB5.out.size hb6⟩⟩
    · have hltz : ¬ (kk : Int) < (l0.length : Int) := by omega
      obtain rfl : kk = l0.length := by omega
      have HLo := Aside0.mk (show loS (l0.take l0.length) = loS l0 by rw [List.take_length])
      rw [HLo.out]
      have HHi := Aside0.mk (show hiS (l0.take l0.length) = hiS l0 by rw [List.take_length])
      rw [HHi.out]
      have HO2 := Aside0.mk (show Own w wr u8 (mkSh l0) by have h := HO.out; rw [List.take_length] at h; exact h)
      clear HO HLo HHi
      by_cases hlo : a1 < loS l0
      · go_wp2
        refine bodyPost_ret (results_list (rs := [.tmp 4, .tmp 5, .tmp 6, .tmp 7]) rfl (by simp) (.tmp (.tmp (.tmp (.tmp .nil))))) rfl ?_
        exact HRR.out _ _ (SplitPost.err 10 (by unfold splitOk; rw [if_pos (by omega)]) HB.out)
      · by_cases hhi : hiS l0 < a1
        · go_wp2
          refine bodyPost_ret (results_list (rs := [.tmp 4, .tmp 5, .tmp 6, .tmp 7]) rfl (by simp) (.tmp (.tmp (.tmp (.tmp .nil))))) rfl ?_
          exact HRR.out _ _ (SplitPost.err 10 (by unfold splitOk; rw [if_neg (by omega), if_pos (by omega)]) HB.out)
        · go_wp2
          have hsb := sums_bound l0 HV.out
          have HSB := Aside0.mk (show -8388608 ≤ loS l0 ∧ hiS l0 ≤ 8389120 by have := HN.out; omega)
          clear hsb
          have HHL := Aside0.mk (show a1 ≤ hiS l0 by omega)
          go_loopg [9] (a1 - loS l0).toNat (fun gg v9 wr => ∃ (n : Nat) (sh : Shr), v9 = .int .i64 (loS l0 + n) ∧ loS l0 + n ≤ a1 ∧ (a1 - loS l0).toNat - n ≤ gg ∧ Aside0 (Own w wr u8 sh) ∧ Aside0 (Below w.heap.size w wr) ∧ Aside0 (Mid l0 a1 n sh))
          case atStart => exact ⟨0, mkSh l0, by simp, by omega, by omega, HO2, HB, ⟨(mkSh_facts l0 HV.out).1, by rw [(mkSh_facts l0 HV.out).2.1]; simp, (mkSh_facts l0 HV.out).2.2, rfl⟩⟩
          case round =>
            obtain ⟨n, sh, rfl, hle, hg, HO, HB, HM⟩ := hrel
            by_cases hlt : loS l0 + n < a1
            · obtain ⟨bs, o1, o2, o3, o4, o5⟩ := HO.out
              obtain ⟨Av, cv, ev⟩ := Kd.R_slice o1
              subst ev
              obtain ⟨m1, m2, m3, m4⟩ := HM.out
              obtain ⟨j, j1, j2, j3⟩ := best_ok sh m1 (by have := HHL.out; omega)
              have hbest := best_calls Av cv bs sh wr (Kd.R_reads' o1).2.2 (shares_of HB.out o2 o3 m1)
              rw [j2] at hbest
              have hgj := m1 _ (getD_mem sh j j1)
              obtain ⟨q1, q2, _, _, q5, _⟩ := validC_parts hgj.1
              have hjb : j < bs.length := by omega
              obtain ⟨adp, ep, hp⟩ := at_P (Kd.R_reads' o1).2.2 j hjb
              subst ep
              obtain ⟨A3, c3, b1, b2, b3⟩ := o3 j j1
              have HM2 := Aside0.mk (HM.out.step hlt j1 j2 j3)
              have HG := Aside0.mk (fun (W' : World) (hbw : Below wr.heap.size wr W') => Own.grow (Kd.R_below o1 hbw) o2 (fun i hi => (o3 i hi).below hbw) o4 o5 j1)
              have HBE := Aside0.mk hbest
              have HP := Aside0.mk hp
              have HK := Aside0.mk b1
              have HBB := Aside0.mk (o4 _ (show bs.getD j 0 ∈ bs by rw [List.getD_eq_getElem?_getD, List.getElem?_eq_getElem hjb]; exact List.getElem_mem hjb))
              have hwx : IntKind.i64.wrap ((sh.getD j zS).2 + 1) = (sh.getD j zS).2 + 1 := by rw [i64_w]; have := hgj.2.1; unfold wrap64; omega
              have hjz : (j : Int) < (bs.length : Int) := by omega
              generalize bs.getD j 0 = b at b1 HG HP HK HBB
              generalize hxx : (sh.getD j zS).2 = x at b1 HG HK hwx
              clear o1 o2 o3 o4 o5 m1 m2 m3 m4 j2 j3 hbest hgj q1 q2 q5 b1 b2 b3 hp HO HM hxx
              go_wp2_with (go_at_call 59; (with_reducible refine HBE.out.mono ?_); rintro e w2 ⟨rfl, hd⟩; have HD2 := Aside0.mk hd.below; have hp2 := (hd.below.cell (World.block_lt_of_cell? _ _ HP.out)).trans HP.out; have BK2 := blk_below HK.out hd.below; have hx3 : w2.cell? ⟨b, 3, none⟩ = some (.int .i64 x) := (blk_cell BK2 3).trans rfl; have hxf := blk_frozen BK2 3; clear hd BK2)
              go_roundg ((a1 - loS l0).toNat - (n + 1))
              case measure => omega
              case rel =>
                have hsb := HSB.out
                have hhl := HHL.out
                exact ⟨n + 1, growAt sh j, by refine congrArg _ ?_; unfold wrap64; push_cast; omega, by omega, by omega, ⟨HG.out w2 HD2.out⟩, ⟨below_set (below_then HB.out HB.out.size HD2.out) HBB.out⟩, HM2⟩
            · have hne : loS l0 + (n : Int) = a1 := by omega
              have hsp : splitOk l0 a1 = (sh.map (fun p => p.2), sumTo sh sh.length, priceTo sh sh.length, 0) := by
                obtain ⟨_, _, _, m4⟩ := HM.out
                rw [show (a1 - loS l0).toNat - n = 0 by omega] at m4
                unfold splitOk
                rw [if_neg (by omega), if_neg (by omega), ← m4]
                rfl
              have HSP := Aside0.mk hsp
              have HGS := Aside0.mk HM.out.1
              have hshl : sh.length = l0.length := by
                obtain ⟨_, _, _, m4⟩ := HM.out
                have h5 := congrArg List.length m4
                rw [fillS_len, fillS_len] at h5
                rw [h5]
                simp [mkSh]
              clear hsp HM HHL HSB
              subst hne
              obtain ⟨bs, o1, o2, o3, o4, o5⟩ := HO.out
              obtain ⟨Av, cv, ev⟩ := Kd.R_slice o1
              subst ev
              have HR67 := Aside0.mk (Kd.R_reads' o1).2.2
              have HS3 := Aside0.mk o3
              have HL := Aside0.mk o2
              have hbl : bs.length ≤ 8 := by rw [o2, hshl]; exact HN.out
              clear o1 o2 o3 o4 o5
              go_wp2_with ((with_reducible refine gate_dst (N := 77) rfl ?_); refine Kd.R_lit (Kd.int .i64) _ 3 ?hg (N := 77) ?hd (xs := ([] : List Int)) (inner := []) (ok := fun _ => True) (okp := fun _ => True) ?hr ?hp (fun _ hk => hk) trivial (Below.refl _ _) (Nat.le_refl _) (by simp) ?_; (case hd => rfl); (case hg => rfl); (case hr => first | (go_simp; done) | (go_simp; rfl)); (case hp => exact Reps.none _ _); intro v1 w3 ho1 hb1 hg1 hn1; clear hg1 hn1; have HX := Aside0.mk (Kd.R_lower ho1 HB.out.size); have HB3 := Aside0.mk (below_then HB.out HB.out.size hb1); have HO3 := Aside0.mk (HO.out.below hb1); clear ho1 hb1)
              have hml : sh.length ≤ 8 := by omega
              clear HR67 hbl hshl
              go_loopg [13, 14, 15, 80] sh.length (fun gg v13 v14 v15 v80 wr => ∃ kk : Nat, kk ≤ sh.length ∧ sh.length - kk ≤ gg ∧ v80 = .int .i64 kk ∧ v14 = .int .i64 (sumTo sh kk) ∧ v15 = .int .i64 (priceTo sh kk) ∧ Aside0 (Kd.R (Kd.int .i64) 3 wr w.heap.size (fun _ => True) v13 ((sh.take kk).map (fun p => p.2))) ∧ Aside0 (Own w wr (.slice Av bs.length cv) sh) ∧ Aside0 (Below w.heap.size w wr))
              case atStart => exact ⟨0, Nat.zero_le _, by omega, rfl, rfl, rfl, HX, HO3, HB3⟩
              case round =>
                clear HX HO3 HB3 HO HB
                obtain ⟨kk, hkk, hg, rfl, rfl, rfl, HX, HO, HB⟩ := hrel
                obtain ⟨bs', o1, o2, o3, o4, o5⟩ := HO.out
                have hbb := Aside0.mk (show bs'.length = bs.length by rw [HL.out, o2])
                by_cases hlt : kk < sh.length
                · have hltz : (kk : Int) < (bs.length : Int) := by have := HL.out; omega
                  obtain ⟨Ab, cb, eb, _, hCb⟩ := Kd.R_reads o1
                  injection eb with eb1 eb2 eb3
                  subst eb1
                  subst eb3
                  clear eb2
                  obtain ⟨adp, ep, hp⟩ := at_P hCb kk (by have := hbb.out; omega)
                  subst ep
                  obtain ⟨A3, c3, b1, b2, b3⟩ := o3 kk hlt
                  have hgj := HGS.out _ (getD_mem sh kk hlt)
                  have hat := at_good hgj
                  have hpr := prices_good hgj 0
                  have HS1 := Aside0.mk (sumTo_succ sh kk hlt)
                  have HS2 := Aside0.mk (priceTo_succ sh kk hlt)
                  have HS4 := Aside0.mk (xs_succ sh kk hlt)
                  generalize bs'.getD kk 0 = b at hp b1
                  generalize atP (sh.getD kk zS) = av at hat HS1
                  generalize loPr (sh.getD kk zS) = lv at hpr HS2
                  generalize hiPr (sh.getD kk zS) = hv2 at hpr
                  generalize hyy : sh.getD kk zS = y at b1 b2 b3 hat hpr HS4 hgj
                  obtain ⟨cv2, x⟩ := y
                  have HAT := Aside0.mk hat
                  have HPR := Aside0.mk hpr
                  have HB2 := Aside0.mk b2
                  have HB3 := Aside0.mk b3
                  have HBK := Aside0.mk b1
                  have hx3 : wr.cell? ⟨b, 3, none⟩ = some (.int .i64 x) := (blk_cell b1 3).trans rfl
                  have hxl : ((sh.take kk).map (fun p => p.2)).length ≤ 8 := by rw [List.length_map, List.length_take]; omega
                  generalize (sh.take kk).map (fun p => p.2) = xs at HX HS4 hxl
                  obtain ⟨Ax, cx, ex⟩ := Kd.R_slice HX.out
                  subst ex
                  have HXL := Aside0.mk hxl
                  obtain ⟨i3, hi3, hiz3, his3, hib3⟩ := info_parts info3
                  clear hat hpr b1 b2 b3 o1 o2 o3 o4 o5 hyy hgj hxl
                  go_wp2_with (at_builtin; (have F := blk_new wr (.cells #[.int .i64 x] 3)); (refine wpList_append_own _ rfl (.tmp 84) (.tmp 89) 22 rfl w.heap.size 3 i3 (.int .i64 0) 1 8 Try.underlying22 hi3 hiz3 his3 hib3 rfl (by decide) _ xs.length (encs (Value.int .i64) xs) rfl ?ow ⟨wr.heap.size, 0, none⟩ 1 1 [.int .i64 x] rfl rfl ?nw (by simp [Value.oneCell']) (by have := HXL.out; unfold maxLen; omega) (by have := HXL.out; omega) ?bb ?_); (case nw => (intro j u h; rcases j with _ | j; (simp at h; subst h; exact (blk_cell F 0).trans rfl); (simp at h))); (case bb => exact Nat.le_trans HB.out.size (below_alloc (Below.refl _ wr) _).size); (case ow => exact Kd.own_of_R (Kd.R_below HX.out (below_alloc (Below.refl _ wr) _))); intro v5 w5 hown hg5 _)
                  have mixed : Try.prog.follows .mixedOrders = true := by kernel_rfl
                  have hba := below_alloc (Below.refl wr.heap.size wr) (.cells #[.int .i64 x] 3)
                  have HX5 := Aside0.mk (show Kd.R (Kd.int .i64) 3 w5 w.heap.size (fun _ => True) v5 (xs ++ [x]) from Kd.R_of_own (by simpa [encs] using hown) (fun _ _ => trivial))
                  have HO5 := Aside0.mk (Own.grown (HO.out.below hba) (Kd.R_below HX.out hba) hg5)
                  have HB5 := Aside0.mk ((below_then HB.out HB.out.size hba).grown hg5 (Nat.le_trans HB.out.size hba.size) (fun k hk => Kd.R_base HX.out k hk))
                  have HK5 := Aside0.mk (blk_grown (blk_below HBK.out hba) hg5 (Kd.R_ne (Kd.R_below HX.out hba) (blk_below HBK.out hba) (by decide)))
                  clear hba hown hg5 HX HO HB HBK hx3
                  have g0 : ∀ p : Bel w5, p.W.cell? ⟨b, 0, none⟩ = some (.int .i64 cv2.f0) := fun p => p.cell ((blk_cell HK5.out 0).trans rfl)
                  have g1 : ∀ p : Bel w5, p.W.cell? ⟨b, 1, none⟩ = some (.int .i64 cv2.f1) := fun p => p.cell ((blk_cell HK5.out 1).trans rfl)
                  have g2 : ∀ p : Bel w5, p.W.cell? ⟨b, 2, none⟩ = some (.slice A3 cv2.f2.length c3) := fun p => p.cell ((blk_cell HK5.out 2).trans rfl)
                  have g3 : ∀ p : Bel w5, p.W.cell? ⟨b, 3, none⟩ = some (.int .i64 x) := fun p => p.cell ((blk_cell HK5.out 3).trans rfl)
                  refine wp_region_bel (by assumption) (by kernel_rfl) ?_
                  repeat (quiet_step ((go_at_call 61; refine Calls.bel_of (curve_at.calls _ _ _ _ _ _ _ _ (Kd.C_below (Kd.C_below HB3.out HB5.out) (Bel.h _)) HB2.out HAT.out))))
                  refine wpQuiet_nil ?_
                  intro wq hw'
                  obtain ⟨pq, hw''⟩ := hw'
                  have hq := Bel.h pq
                  rw [← hw''] at hq
                  clear hw'' pq
                  have HO6 := Aside0.mk (HO5.out.below hq)
                  have HX6 := Aside0.mk (Kd.R_below HX5.out hq)
                  have HB6 := Aside0.mk (below_then HB5.out HB5.out.size hq)
                  have HK6 := Aside0.mk (blk_below HK5.out hq)
                  clear hq g0 g1 g2 g3 HO5 HX5 HB5 HK5
                  have g0 : ∀ p : Bel wq, p.W.cell? ⟨b, 0, none⟩ = some (.int .i64 cv2.f0) := fun p => p.cell ((blk_cell HK6.out 0).trans rfl)
                  have g1 : ∀ p : Bel wq, p.W.cell? ⟨b, 1, none⟩ = some (.int .i64 cv2.f1) := fun p => p.cell ((blk_cell HK6.out 1).trans rfl)
                  have g2 : ∀ p : Bel wq, p.W.cell? ⟨b, 2, none⟩ = some (.slice A3 cv2.f2.length c3) := fun p => p.cell ((blk_cell HK6.out 2).trans rfl)
                  have g3 : ∀ p : Bel wq, p.W.cell? ⟨b, 3, none⟩ = some (.int .i64 x) := fun p => p.cell ((blk_cell HK6.out 3).trans rfl)
                  go_wp2
                  refine wp_region_bel (by assumption) (by kernel_rfl) ?_
                  repeat (quiet_step ((go_at_call 62; refine Calls.bel_of (curve_prices.calls _ _ _ _ _ _ _ _ _ _ (Kd.C_below (Kd.C_below HB3.out HB6.out) (Bel.h _)) HB2.out HPR.out))))
                  refine wpQuiet_nil ?_
                  intro wq hw'
                  obtain ⟨pq, hw''⟩ := hw'
                  have hq := Bel.h pq
                  rw [← hw''] at hq
                  clear hw'' pq
                  have HO7 := Aside0.mk (HO6.out.below hq)
                  have HX7 := Aside0.mk (Kd.R_below HX6.out hq)
                  have HB7 := Aside0.mk (below_then HB6.out HB6.out.size hq)
                  clear hq g0 g1 g2 g3 HO6 HX6 HB6 HK6
                  go_wp2
                  all_goals
                    go_roundg (sh.length - (kk + 1))
                    case measure => omega
                    case rel => exact ⟨kk + 1, by omega, by omega, by go_num, by rw [HS1.out, i64_w], by rw [HS2.out]; first | done | (refine congrArg _ ?_; omega), ⟨by rw [HS4.out]; exact HX7.out⟩, HO7, HB7⟩
                · obtain rfl : kk = sh.length := by omega
                  have hltz : ¬ ((sh.length : Nat) : Int) < (bs.length : Int) := by have := HL.out; omega
                  go_wp2
                  refine bodyPost_ret (results_list (rs := [.tmp 4, .tmp 5, .tmp 6, .tmp 7]) rfl (by simp) (.tmp (.tmp (.tmp (.tmp .nil))))) rfl ?_
                  exact HRR.out _ _ (SplitPost.ok HSP.out (by have h := HX.out; rw [List.take_length] at h; exact h) HB.out)
def splitR (l : List S24) (a1 : Int) : List Int × Int × Int × Int :=
  if 8 < l.length then ([], 0, 0, 3) else if l.length = 0 then ([], 0, 0, 2) else if l.any (fun x => !validC x.f0 x.f1 x.f2) = true then ([], 0, 0, 2) else splitOk l a1
def curve_Split.f (k : Nat) (l : List S24) (a1 : Int) : Option (List Int × Int × Int × Int) := some (splitR l a1)
theorem curve_Split.mono : ∀ a0 a1 k, LeO (curve_Split.f k a0 a1) (curve_Split.f (k + 1) a0 a1) := fun _ _ _ => LeO.refl _
set_option maxHeartbeats 4000000 in
set_option maxRecDepth 100000 in
theorem curve_Split.all (A0 : Option Addr) (c0 : Nat) (l0 : List S24) (a1 : Int) (w : World) (hr0 : Kd.C k24 w A0 l0.length l0) (hc0 : l0.length ≤ c0) (R : Ending → World → Prop) (hR : ∀ e w', SplitPost w (splitR l0 a1) e w' → R e w') :
    Calls Try.prog 19 #[.slice A0 l0.length c0, .int .i64 a1] w R := by
  have HRR := Aside0.mk hR
  clear hR
  by_cases h8 : 8 < l0.length
  · have h8z : (8 : Int) < (l0.length : Int) := by omega
    have e1 : splitR l0 a1 = ([], 0, 0, 3) := by unfold splitR; rw [if_pos h8]
    have E1 := Aside0.mk e1
    clear h8 e1
    go_enter Try.func19, Try.ntmps19
    go_wp2
    refine bodyPost_ret (results_list (rs := [.tmp 4, .tmp 5, .tmp 6, .tmp 7]) rfl (by simp) (.tmp (.tmp (.tmp (.tmp .nil))))) rfl ?_
    exact HRR.out _ _ (SplitPost.err 3 E1.out (Below.refl _ w))
  · have h8z : ¬ (8 : Int) < (l0.length : Int) := by omega
    by_cases h0 : l0.length = 0
    · have hz : ((l0.length : Int) == 0) = true := by rw [beq_iff_eq]; omega
      have e1 : splitR l0 a1 = ([], 0, 0, 2) := by unfold splitR; rw [if_neg h8, if_pos h0]
      have E1 := Aside0.mk e1
      clear h8 e1 h0
      go_enter Try.func19, Try.ntmps19
      go_wp2
      refine bodyPost_ret (results_list (rs := [.tmp 4, .tmp 5, .tmp 6, .tmp 7]) rfl (by simp) (.tmp (.tmp (.tmp (.tmp .nil))))) rfl ?_
      exact HRR.out _ _ (SplitPost.err 2 E1.out (Below.refl _ w))
    · by_cases ha : l0.any (fun x => !validC x.f0 x.f1 x.f2) = true
      · have hz : ((l0.length : Int) == 0) = false := by rw [beq_eq_false_iff_ne]; omega
        have e1 : splitR l0 a1 = ([], 0, 0, 2) := by unfold splitR; rw [if_neg h8, if_neg h0, if_pos ha]
        have E1 := Aside0.mk e1
        have HC := Aside0.mk (containsFunc_curve 57 #[] _ enter57 A0 c0 l0 w hr0 (pred_valid w))
        rw [ha] at HC
        clear h8 e1 h0 ha
        go_enter Try.func19, Try.ntmps19
        go_wp2_with (go_at_call 56; (with_reducible refine HC.out.mono ?_); rintro e w1 ⟨rfl, hb1⟩; have HB1 := Aside0.mk hb1; clear hb1)
        refine bodyPost_ret (results_list (rs := [.tmp 4, .tmp 5, .tmp 6, .tmp 7]) rfl (by simp) (.tmp (.tmp (.tmp (.tmp .nil))))) rfl ?_
        exact HRR.out _ _ (SplitPost.err 2 E1.out HB1.out)
      · have hv : AllV l0 := by
          intro c hc
          have ha2 : l0.any (fun x => !validC x.f0 x.f1 x.f2) = false := Bool.eq_false_iff.mpr ha
          rw [List.any_eq_false] at ha2
          simpa using ha2 c hc
        refine curve_Split.go A0 c0 l0 a1 w hr0 hc0 (by omega) (by omega) hv R (fun e w' hp => HRR.out e w' ?_)
        unfold splitR
        rw [if_neg h8, if_neg h0, if_neg ha]
        exact hp
set_option maxHeartbeats 4000000 in
set_option maxRecDepth 100000 in
theorem curve_Split.calls (k : Nat) (A0 : Option Addr) (c0 : Nat) (l0 : List S24) (a1 : Int) (r1 : List Int) (r2 r3 r4 : Int) (w : World) (hr0 : Kd.C k24 w A0 l0.length l0) (hc0 : l0.length ≤ c0) (h : curve_Split.f k l0 a1 = some (r1, r2, r3, r4)) :
    Calls Try.prog 19 #[.slice A0 l0.length c0, .int .i64 a1] w fun e w' => ∃ v_ : Value, e = .returned (.tuple #[v_, .int .i64 r2, .int .i64 r3, .int .i64 r4]) ∧ Kd.R (Kd.int .i64) 3 w' w.heap.size (fun _ => True) v_ r1 ∧ Below w.heap.size w w' := by
  have hr : splitR l0 a1 = (r1, r2, r3, r4) := Option.some.inj h
  have key : ∀ e w', SplitPost w (splitR l0 a1) e w' → ∃ v_ : Value, e = .returned (.tuple #[v_, .int .i64 r2, .int .i64 r3, .int .i64 r4]) ∧ Kd.R (Kd.int .i64) 3 w' w.heap.size (fun _ => True) v_ r1 ∧ Below w.heap.size w w' := by
    intro e w' hp
    rw [hr] at hp
    exact hp
  exact curve_Split.all A0 c0 l0 a1 w hr0 hc0 _ key
end Go.Proofs.Ytingjpcgehgiiaa.Pr
end
section
namespace Go.Proofs.Ytingjpcgehgiiaa.Pr
open Go.RowKit Go.Proofs.YtingjpcgehgiiaaW.PrintWords Go.Proofs.YtingjpcgehgiiaaW.PrintLast Go.Proofs.YtingjpcgehgiiaaW.PrintMore
set_option linter.unusedVariables false
set_option linter.unusedSimpArgs false
theorem C_lit {W : World} {g : Nat} (xs : List Int) (h : W.heap[g]? = some (.cells ((xs.map (Value.int .i64)).toArray) 3 (0, 0))) (hl : xs.length ≤ 9223372036854775807) : Kd.C (Kd.int .i64) W (some ⟨g, 0, none⟩) xs.length xs := by
  refine ⟨rfl, hl, fun _ => ⟨_, rfl, fun j p hp => ⟨[.int .i64 p], rfl, rfl, fun i u hu => ?_⟩⟩⟩
  rcases i with _ | i
  · simp at hu
    subst hu
    have hc := blk_cell h j
    have e : (⟨g, 0, none⟩ : Addr).add (j * 1 + 0) = ⟨g, j, none⟩ := by simp [Addr.add]; intro h; exact h.symm
    show W.cell? ((⟨g, 0, none⟩ : Addr).add (j * 1 + 0)) = _
    rw [e, hc]
    simp [hp]
  · simp at hu
/-- A literal of curves: their cells one behind the other. -/
theorem C_lit24 {W : World} {g : Nat} (c1 c2 : S24) (A1 A2 : Option Addr) (n1 n2 : Nat) (h : W.heap[g]? = some (.cells #[.int .i64 c1.f0, .int .i64 c1.f1, .slice A1 c1.f2.length n1, .int .i64 c2.f0, .int .i64 c2.f1, .slice A2 c2.f2.length n2] 24 (0, 0)))
    (l1 : c1.f2.length ≤ n1) (l2 : c2.f2.length ≤ n2) (h1 : Kd.C (Kd.int .i64) W A1 c1.f2.length c1.f2) (h2 : Kd.C (Kd.int .i64) W A2 c2.f2.length c2.f2) : Kd.C k24 W (some ⟨g, 0, none⟩) 2 [c1, c2] := by
  refine ⟨rfl, by omega, fun _ => ⟨_, rfl, fun j p hp => ?_⟩⟩
  rcases j with _ | _ | j
  · simp at hp
    subst hp
    refine ⟨_, rfl, k24_mk W c1 l1 h1, fun i u hu => ?_⟩
    have hc := blk_cell h i
    have e : (⟨g, 0, none⟩ : Addr).add (0 * 3 + i) = ⟨g, i, none⟩ := by simp [Addr.add]; intro h; exact h.symm
    show W.cell? ((⟨g, 0, none⟩ : Addr).add (0 * 3 + i)) = _
    rw [e, hc]
    rcases i with _ | _ | _ | i
    · simpa using hu
    · simpa using hu
    · simpa using hu
    · simp at hu
  · simp at hp
    subst hp
    refine ⟨_, rfl, k24_mk W c2 l2 h2, fun i u hu => ?_⟩
    have hc := blk_cell h (3 + i)
    have e : (⟨g, 0, none⟩ : Addr).add ((0 + 1) * 3 + i) = ⟨g, 3 + i, none⟩ := by simp [Addr.add]
    show W.cell? ((⟨g, 0, none⟩ : Addr).add ((0 + 1) * 3 + i)) = _
    rw [e, hc]
    rcases i with _ | _ | _ | i
    · simpa using hu
    · simpa using hu
    · simpa using hu
    · simp at hu
  · simp at hp
end Go.Proofs.Ytingjpcgehgiiaa.Pr
end
section
namespace Go.Proofs.Ytingjpcgehgiiaa.Pr
open Go.RowKit Go.Shelf Go.Proofs.YtingjpcgehgiiaaW.PrintWords Go.Proofs.YtingjpcgehgiiaaW.PrintLast Go.Proofs.YtingjpcgehgiiaaW.PrintMore
set_option linter.unusedVariables false
set_option linter.unusedSimpArgs false
def kimberlitelaw03_alive.f : Option Bool := some true
theorem alive_join : curve_Join.f 0 0 [1, 3] 0 0 [2, 2] = some (0, 0, [1, 2, 2, 3], 0) := by
  have e : sortL ([1, 3] ++ [2, 2]) = [1, 2, 2, 3] := by simp [sortL, List.mergeSort, List.MergeSort.Internal.splitInTwo, List.merge]
  have e1 : validC 0 0 [1, 3] = true := by kernel_rfl
  have e2 : validC 0 0 [2, 2] = true := by kernel_rfl
  have e3 : validC 0 0 [1, 2, 2, 3] = true := by kernel_rfl
  have e4 : wrap64 (0 + 0) = 0 := by unfold wrap64; omega
  unfold curve_Join.f joinR
  rw [e, e1, e2, e4, e3]
  rfl
theorem alive_split (k : Nat) : curve_Split.f k [⟨0, 0, [1, 3]⟩, ⟨0, 0, [2, 2]⟩] 3 = some ([1, 2], 5, 2, 0) := by
  show some _ = _
  kernel_rfl
theorem alive_same1 : kimberlitelaw03_same.f 10 [1, 2, 2, 3] [1, 2, 2, 3] = some true := by kernel_rfl
theorem alive_same2 : kimberlitelaw03_same.f 10 [1, 2] [1, 2] = some true := by kernel_rfl
theorem alive_c1 (w3 : World) (Aj : Option Addr) (cj : Nat) (h1 : Kd.C (Kd.int .i64) w3 Aj 4 [1, 2, 2, 3]) (h2 : 4 ≤ cj) :
    Calls Try.prog 24 #[.slice Aj 4 cj, .slice (some ⟨w3.heap.size, 0, none⟩) 4 4] (w3.alloc (.cells #[.int .i64 1, .int .i64 2, .int .i64 2, .int .i64 3] 3)) fun e w' => e = .returned (.bool true) ∧ Drawn0 (w3.alloc (.cells #[.int .i64 1, .int .i64 2, .int .i64 2, .int .i64 3] 3)) w' :=
  kimberlitelaw03_same.calls 10 Aj cj [1, 2, 2, 3] (some ⟨w3.heap.size, 0, none⟩) 4 [1, 2, 2, 3] true _ (Kd.C_alloc h1 _) h2 (C_lit [1, 2, 2, 3] (blk_new w3 (.cells #[.int .i64 1, .int .i64 2, .int .i64 2, .int .i64 3] 3)) (by decide)) (by decide) alive_same1
theorem alive_c2 (As : Option Addr) (cs : Nat) (h2 : 2 ≤ cs) (w4 : World) (h1 : Kd.C (Kd.int .i64) w4 As 2 [1, 2]) :
    Calls Try.prog 24 #[.slice As 2 cs, .slice (some ⟨w4.heap.size, 0, none⟩) 2 2] (w4.alloc (.cells #[.int .i64 1, .int .i64 2] 3)) fun e w' => e = .returned (.bool true) ∧ Drawn0 (w4.alloc (.cells #[.int .i64 1, .int .i64 2] 3)) w' :=
  kimberlitelaw03_same.calls 10 As cs [1, 2] (some ⟨w4.heap.size, 0, none⟩) 2 [1, 2] true _ (Kd.C_alloc h1 _) h2 (C_lit [1, 2] (blk_new w4 (.cells #[.int .i64 1, .int .i64 2] 3)) (by decide)) (by decide) alive_same2
set_option maxHeartbeats 400000 in
set_option maxRecDepth 100000 in
theorem kimberlitelaw03_alive.calls (r : Bool) (w : World) (h : kimberlitelaw03_alive.f = some r) :
    Calls Try.prog 17 #[] w fun e w' => e = .returned (.bool r) ∧ Below w.heap.size w w' := by
  obtain rfl : true = r := Option.some.inj h
  have hu24 := Try.underlying24
  have A0 := C_lit [1, 3] (blk_new w (.cells #[.int .i64 1, .int .i64 3] 3)) (by decide)
  have B0 := blk_new (w.alloc (.cells #[.int .i64 1, .int .i64 3] 3)) (.cells #[.int .i64 2, .int .i64 2] 3)
  rw [World.size_alloc] at B0
  replace B0 := C_lit [2, 2] B0 (by decide)
  have HA := Aside0.mk A0
  have HB := Aside0.mk B0
  have C0 := blk_new ((w.alloc (.cells #[.int .i64 1, .int .i64 3] 3)).alloc (.cells #[.int .i64 2, .int .i64 2] 3)) (.cells #[.int .i64 0, .int .i64 0, .slice (some ⟨w.heap.size, 0, none⟩) 2 2] 24)
  have D0 := blk_new (((w.alloc (.cells #[.int .i64 1, .int .i64 3] 3)).alloc (.cells #[.int .i64 2, .int .i64 2] 3)).alloc (.cells #[.int .i64 0, .int .i64 0, .slice (some ⟨w.heap.size, 0, none⟩) 2 2] 24)) (.cells #[.int .i64 0, .int .i64 0, .slice (some ⟨w.heap.size + 1, 0, none⟩) 2 2] 24)
  rw [World.size_alloc, World.size_alloc] at C0
  rw [World.size_alloc, World.size_alloc, World.size_alloc] at D0
  replace C0 := blk_alloc C0 (.cells #[.int .i64 0, .int .i64 0, .slice (some ⟨w.heap.size + 1, 0, none⟩) 2 2] 24)
  have HL4 := Aside0.mk (below_alloc (below_alloc (below_alloc (below_alloc (Below.refl w.heap.size w) (.cells #[.int .i64 1, .int .i64 3] 3)) (.cells #[.int .i64 2, .int .i64 2] 3)) (.cells #[.int .i64 0, .int .i64 0, .slice (some ⟨w.heap.size, 0, none⟩) 2 2] 24)) (.cells #[.int .i64 0, .int .i64 0, .slice (some ⟨w.heap.size + 1, 0, none⟩) 2 2] 24))
  have HC := Aside0.mk C0
  have HD := Aside0.mk D0
  clear A0 B0 C0 D0
  go_enter Try.func17, Try.ntmps17
  go_upto_region 3 with (go_at_call 14; (refine (curve_Join.calls 0 0 _ _ [1, 3] 0 0 _ _ [2, 2] 0 0 [1, 2, 2, 3] 0 _ (Kd.C_alloc (Kd.C_alloc (Kd.C_alloc HA.out _) _) _) (by decide) (Kd.C_alloc (Kd.C_alloc HB.out _) _) (by decide) alive_join).mono ?_); rintro e w1 ⟨vj, rfl, hr1, hb1⟩; obtain ⟨Aj, cj, ej⟩ := Kd.R_slice hr1; subst ej; have HR1 := Aside0.mk hr1; have HB1 := Aside0.mk hb1; clear hr1 hb1)
  have K0 := blk_new w1 (.cells #[.int .i64 0, .int .i64 0, .slice Aj 4 cj] 24)
  have HR2 := Aside0.mk (Kd.C_alloc (Kd.R_reads' HR1.out).2.2 (.cells #[.int .i64 0, .int .i64 0, .slice Aj 4 cj] 24))
  have HRl := Aside0.mk (Kd.R_reads' HR1.out).2.1
  have HK := Aside0.mk K0
  have HC2 := Aside0.mk (blk_alloc (blk_below HC.out HB1.out) (.cells #[.int .i64 0, .int .i64 0, .slice Aj 4 cj] 24))
  have HD2 := Aside0.mk (blk_alloc (blk_below HD.out HB1.out) (.cells #[.int .i64 0, .int .i64 0, .slice Aj 4 cj] 24))
  have HA2 := Aside0.mk (Kd.C_alloc (Kd.C_below (Kd.C_alloc (Kd.C_alloc (Kd.C_alloc HA.out _) _) _) HB1.out) (.cells #[.int .i64 0, .int .i64 0, .slice Aj 4 cj] 24))
  have HBB2 := Aside0.mk (Kd.C_alloc (Kd.C_below (Kd.C_alloc (Kd.C_alloc HB.out _) _) HB1.out) (.cells #[.int .i64 0, .int .i64 0, .slice Aj 4 cj] 24))
  have HL5 := Aside0.mk (below_alloc (below_then HL4.out HL4.out.size HB1.out) (.cells #[.int .i64 0, .int .i64 0, .slice Aj 4 cj] 24))
  clear K0 HA HB HC HD HR1 HB1 HL4
  try simp only [Act.put, List.setIfInBounds_toArray, List.set_cons_zero, List.set_cons_succ]
  generalize w1.alloc (.cells #[.int .i64 0, .int .i64 0, .slice Aj 4 cj] 24) = w2 at HK HC2 HD2 HA2 HBB2 HL5 HR2 ⊢
  generalize w1.heap.size = g3 at HK ⊢
  generalize w.heap.size + 1 + 1 + 1 = gd at HD2 ⊢
  generalize w.heap.size + 1 + 1 = gc at HC2 ⊢
  generalize w.heap.size + 1 = gb at HD2 HBB2 ⊢
  have c0 : w2.cell? ⟨gc, 0, none⟩ = some (.int .i64 0) := (blk_cell HC2.out 0).trans rfl
  have c1 : w2.cell? ⟨gc, 1, none⟩ = some (.int .i64 0) := (blk_cell HC2.out 1).trans rfl
  have c2 : w2.cell? ⟨gc, 2, none⟩ = some (.slice (some ⟨w.heap.size, 0, none⟩) 2 2) := (blk_cell HC2.out 2).trans rfl
  have d0 : w2.cell? ⟨gd, 0, none⟩ = some (.int .i64 0) := (blk_cell HD2.out 0).trans rfl
  have d1 : w2.cell? ⟨gd, 1, none⟩ = some (.int .i64 0) := (blk_cell HD2.out 1).trans rfl
  have d2 : w2.cell? ⟨gd, 2, none⟩ = some (.slice (some ⟨gb, 0, none⟩) 2 2) := (blk_cell HD2.out 2).trans rfl
  go_upto_region 4 with (go_at_call 19; (refine (curve_Split.calls 0 _ _ [⟨0, 0, [1, 3]⟩, ⟨0, 0, [2, 2]⟩] 3 [1, 2] 5 2 0 _ (C_lit24 ⟨0, 0, [1, 3]⟩ ⟨0, 0, [2, 2]⟩ (some ⟨w.heap.size, 0, none⟩) (some ⟨gb, 0, none⟩) 2 2 (blk_new w2 _) (by decide) (by decide) (Kd.C_alloc HA2.out _) (Kd.C_alloc HBB2.out _)) (by decide) (alive_split 0)).mono ?_); rintro e w3 ⟨vs, rfl, hr3, hb3⟩; obtain ⟨As, cs, es⟩ := Kd.R_slice hr3; subst es; have HS := Aside0.mk (Kd.R_reads' hr3); have HB3 := Aside0.mk (below_then (below_alloc HL5.out _) (below_alloc HL5.out _).size hb3); have HR3 := Aside0.mk (Kd.C_below (Kd.C_alloc HR2.out _) hb3); have HK3 := Aside0.mk (blk_below (blk_alloc HK.out _) hb3); clear hr3 hb3)
  clear c0 c1 c2 d0 d1 d2 HK HC2 HD2 HA2 HBB2 HL5 HR2
  try simp only [Act.put, List.setIfInBounds_toArray, List.set_cons_zero, List.set_cons_succ]
  have c2 : w3.cell? ⟨g3, 2, none⟩ = some (.slice Aj 4 cj) := (blk_cell HK3.out 2).trans rfl
  have mixed : Try.prog.follows .mixedOrders = true := by kernel_rfl
  have HL1 := Aside0.mk (C_lit [1, 2, 2, 3] (blk_new w3 (.cells #[.int .i64 1, .int .i64 2, .int .i64 2, .int .i64 3] 3)) (by decide))
  have HLs := Aside0.mk (Kd.C_alloc HS.out.2.2 (.cells #[.int .i64 1, .int .i64 2, .int .i64 2, .int .i64 3] 3))
  have HB4 := Aside0.mk (below_alloc HB3.out (.cells #[.int .i64 1, .int .i64 2, .int .i64 2, .int .i64 3] 3))
  have HC1 := Aside0.mk (show Calls Try.prog 24 #[.slice Aj 4 cj, .slice (some ⟨w3.heap.size, 0, none⟩) 4 4] (w3.alloc (.cells #[.int .i64 1, .int .i64 2, .int .i64 2, .int .i64 3] 3)) fun e w' => e = .returned (.bool true) ∧ Drawn0 (w3.alloc (.cells #[.int .i64 1, .int .i64 2, .int .i64 2, .int .i64 3] 3)) w' from alive_c1 w3 Aj cj HR3.out HRl.out)
  have HC2 := Aside0.mk (alive_c2 As cs HS.out.2.1)
  clear HL1 HR3 HRl
  have HS2 := Aside0.mk HS.out.2.2
  clear HS
  go_wp2_with (first | (go_at_call 24; (with_reducible refine HC1.out.mono ?_); rintro e w4 ⟨rfl, hd⟩; have HB5 := Aside0.mk (below_then HB4.out HB4.out.size hd.below); have HS5 := Aside0.mk (Kd.C_below HLs.out hd.below); clear hd HC1) | (go_at_call 24; (with_reducible refine (HC2.out _ HS5.out).mono ?_); rintro e w5 ⟨rfl, hd⟩; have HB6 := Aside0.mk (below_then (below_alloc HB5.out _) (below_alloc HB5.out _).size hd.below); clear hd))
  go_ret
  exact ⟨rfl, HB6.out⟩
end Go.Proofs.Ytingjpcgehgiiaa.Pr
end
section
namespace Go.Proofs.Ytingjpcgehgiiaa.Pr
open Go.RowKit Go.Proofs.YtingjpcgehgiiaaW.PrintWords Go.Proofs.YtingjpcgehgiiaaW.PrintLast Go.Proofs.YtingjpcgehgiiaaW.PrintMore
set_option linter.unusedVariables false
set_option linter.unusedSimpArgs false
theorem nB {w0 w w' : World} {g : Nat} {o : Obj} (BK : Aside0 (w0.heap[g]? = some o)) (hb : Below w.heap.size w w') (hh : w0.heap[g]? = some o → w.heap[g]? = some o := by intro h; (with_reducible repeat (first | refine blk_drewN ?_ _ | refine blk_drew ?_ | refine blk_alloc ?_ _)); exact h) : w'.heap[g]? = some o := blk_below (hh BK.out) hb
theorem nK {w0 w : World} {g : Nat} {o : Obj} (BK : Aside0 (w0.heap[g]? = some o)) (hh : w0.heap[g]? = some o → w.heap[g]? = some o := by intro h; (with_reducible repeat (first | refine blk_drewN ?_ _ | refine blk_drew ?_ | refine blk_alloc ?_ _)); exact h) : w.heap[g]? = some o := hh BK.out
theorem nR {α : Type} {kd : Kd α} {t : TypeId} {w0 w : World} {base : Nat} {ok : Nat → Prop} {v : Value} {l : List α} (H : Aside0 (Kd.R kd t w0 base ok v l)) (hh : Kd.R kd t w0 base ok v l → Kd.R kd t w base ok v l := by intro h; (with_reducible repeat (first | apply Kd.R_alloc | apply Kd.R_drewN | apply Kd.R_drew)); exact h) : Kd.R kd t w base ok v l := hh H.out
theorem nC {w W0 W : World} (HB : Aside0 (Below w.heap.size w W0)) (hh : Below w.heap.size w W0 → Below w.heap.size w W := by intro h; repeat (first | (with_reducible first | exact h | apply below_alloc | apply pw_below_drewN | apply below_drew1 | refine below_set ?_ (Aside0.out (by assumption))) | exact h)) : Below w.heap.size w W := hh HB.out
end Go.Proofs.Ytingjpcgehgiiaa.Pr
end
