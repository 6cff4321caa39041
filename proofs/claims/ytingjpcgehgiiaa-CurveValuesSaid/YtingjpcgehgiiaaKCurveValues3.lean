/- What the proof of the law needs, trimmed and merged by wip/pack.py out of the texts YtingjpcgehgiiaaExtJoin, YtingjpcgehgiiaaCon, YtingjpcgehgiiaaSam, YtingjpcgehgiiaaExtOf, YtingjpcgehgiiaaPrx5, YtingjpcgehgiiaaPrx6. No condition. -/
import Derived.Test.YtingjpcgehgiiaaKCurveValues0
import Derived.Test.YtingjpcgehgiiaaKCurveValues1
import Derived.Test.YtingjpcgehgiiaaKCurveValues2
section
namespace Go.Proofs.Ytingjpcgehgiiaa.Pr
open Go.RowKit Go.Shelf Go.Proofs.YtingjpcgehgiiaaW.PrintWords Go.Proofs.YtingjpcgehgiiaaW.PrintLast Go.Proofs.YtingjpcgehgiiaaW.PrintMore
set_option linter.unusedVariables false
set_option linter.unusedSimpArgs false
/-- A slice of a call's own with no numbers, and room for n. -/
theorem grow_nil (n : Nat) (w : World) (hn : n ≤ 1000000) : Calls Try.prog 79 #[.slice none 0 0, .int .i64 n] w fun e w' => ∃ v, e = .returned v ∧ Kd.R (Kd.int .i64) 3 w' w.heap.size (fun _ => True) v [] ∧ Below w.heap.size w w' := by
  rcases Nat.eq_zero_or_pos n with rfl | h0
  · refine (Try.slices_Grow_room none 0 0 0 w (by omega) (by omega) (by omega) (by omega)).mono ?_
    rintro e w' ⟨rfl, rfl⟩
    exact ⟨_, rfl, Kd.R_nil _ _ _ _ _, Below.refl _ _⟩
  · obtain ⟨i0, hi, hz, hs, hb⟩ := info_parts info3
    refine (Try.slices_Grow_nil i0 (.int .i64 0) hi hz (by omega) n w (by omega) (by rw [hb]; omega) (by omega)).mono ?_
    rintro e w' ⟨rfl, rfl⟩
    have hge := grownCap_ge w (0 + n) 0 3
    have hle := grownCap_le_maxLen w (0 + n) 0 3 (by unfold maxLen; omega)
    generalize grownCap w (0 + n) 0 3 = G at hge hle ⊢
    refine ⟨_, rfl, ⟨fun _ _ => trivial, [], ⟨rfl, .inr ⟨w.heap.size, G, _, rfl, Nat.le_refl _, blk_new w.drew _, Nat.zero_le _, hle, ?_, rfl⟩⟩, Reps.none _ _⟩, ?_⟩
    · simp [size_zeroCells, Value.cells]
      change n + (G - n) = G * 1
      omega
    · exact below_alloc (below_drew1 (Below.refl _ _)) _
set_option maxHeartbeats 4000000 in
set_option maxRecDepth 100000 in
/-- slices.Concat of two lists. -/
theorem concat_two (gb : Nat) (A1 A2 : Option Addr) (c1 c2 : Nat) (l m : List Int) (w : World) (hg : w.heap[gb]? = some (.cells #[.slice A1 l.length c1, .slice A2 m.length c2] 22 (0, 0))) (hr1 : Kd.C (Kd.int .i64) w A1 l.length l) (hr2 : Kd.C (Kd.int .i64) w A2 m.length m) (hl : l.length ≤ 1000) (hm : m.length ≤ 1000) :
    Calls Try.prog 49 #[.slice (some ⟨gb, 0, none⟩) 2 2] w fun e w' => ∃ v, e = .returned v ∧ Kd.R (Kd.int .i64) 3 w' w.heap.size (fun _ => True) v (l ++ m) ∧ Below w.heap.size w w' := by
  have HR1 := Aside0.mk hr1
  have HR2 := Aside0.mk hr2
  have HG := Aside0.mk hg
  have hz0 : w.cell? ⟨gb, 0, none⟩ = some (.slice A1 l.length c1) := (blk_cell hg 0).trans rfl
  have hz1 : w.cell? ⟨gb, 1, none⟩ = some (.slice A2 m.length c2) := (blk_cell hg 1).trans rfl
  have ZZ0 := Aside0.mk hz0
  have ZZ1 := Aside0.mk hz1
  clear hr1 hr2 hg
  go_enter Try.func49, Try.ntmps49
  go_wp2
  go_loopg [3, 11] 2 (fun gg v3 v11 wr => ∃ kk : Nat, kk ≤ 2 ∧ 2 - kk ≤ gg ∧ v3 = .int .i64 (if kk = 0 then 0 else if kk = 1 then (l.length : Int) else ((l.length + m.length : Nat) : Int)) ∧ v11 = .int .i64 kk ∧ w = wr)
  case atStart => exact ⟨0, by omega, by omega, rfl, rfl, rfl⟩
  case round =>
    obtain ⟨kk, hkk, hg, rfl, rfl, rfl⟩ := hrel
    rcases (by omega : kk = 0 ∨ kk = 1 ∨ kk = 2) with rfl | rfl | rfl
    · go_wp2
      go_roundg 1
      case measure => omega
      case rel => exact ⟨1, by omega, by omega, rfl, rfl, rfl⟩
    · have hw : IntKind.i64.wrap ((l.length : Int) + (m.length : Int)) = (l.length : Int) + (m.length : Int) := by rw [i64_w]; unfold wrap64; omega
      have hn : ¬ (l.length : Int) + (m.length : Int) < 0 := by omega
      go_wp2
      go_roundg 0
      case measure => omega
      case rel => exact ⟨2, by omega, by omega, by first | rfl | simp, rfl, rfl⟩
    · have hG := Aside0.mk (grow_nil (l.length + m.length) w (by omega))
      go_wp2_with (go_at_call 79; refine hG.out.mono ?_; rintro e w1 ⟨v1, rfl, ho1, hb1⟩; obtain ⟨A3, c3, e3⟩ := Kd.R_slice ho1; subst e3; have hy0 := (hb1.cell (p := ⟨gb, 0, none⟩) (World.block_lt_of_cell? _ _ hz0)).trans hz0; have hy1 := (hb1.cell (p := ⟨gb, 1, none⟩) (World.block_lt_of_cell? _ _ hz1)).trans hz1; clear hz0 hz1)
      have HO1 := Aside0.mk ho1
      have HB1 := Aside0.mk hb1
      clear ho1 hb1 hg hkk
      clear hy0 hy1
      go_loopg [6, 27] 2 (fun gg v6 v27 wr => ∃ kk : Nat, kk ≤ 2 ∧ 2 - kk ≤ gg ∧ v27 = .int .i64 kk ∧ Aside0 (Kd.R (Kd.int .i64) 3 wr w.heap.size (fun _ => True) v6 (if kk = 0 then [] else if kk = 1 then l else l ++ m)) ∧ Aside0 (Below w.heap.size w wr))
      case atStart => exact ⟨0, by omega, by omega, rfl, HO1, HB1⟩
      case round =>
        obtain ⟨kk, hkk, hg, rfl, HO, HB⟩ := hrel
        have hy0 := (HB.out.cell (p := ⟨gb, 0, none⟩) (World.block_lt_of_cell? _ _ ZZ0.out)).trans ZZ0.out
        have hy1 := (HB.out.cell (p := ⟨gb, 1, none⟩) (World.block_lt_of_cell? _ _ ZZ1.out)).trans ZZ1.out
        rcases (by omega : kk = 0 ∨ kk = 1 ∨ kk = 2) with rfl | rfl | rfl
        · obtain ⟨A5, c5, e5⟩ := Kd.R_slice HO.out
          subst e5
          go_wp2_with (at_builtin; refine Kd.R_append_rows (Kd.int .i64) (Rr := (Kd.int .i64).K w) (w0 := w) w.heap.size rfl (.tmp 31) (.tmp 32) 22 3 (.int .i64 0) 8 rfl Try.underlying22 info3 rfl (by decide) (by omega) _ ([]) l A1 l.length c1 (fun _ => True) (fun _ => False) rfl rfl HO.out ?aR ?aK (fun _ hk => hk.elim) (fun _ _ => trivial) HB.out HB.out.size ?aL ?_; (case aR => exact (Kd.C_below HR1.out HB.out)); (case aK => (intro x cs hx; exact hx)); (case aL => (first | omega | (simp; omega))); intro v2 w2 ho2 hb2 hg2 hn2; clear hg2 hn2; obtain ⟨A4, c4, e4⟩ := Kd.R_slice ho2; subst e4)
          go_roundg 1
          case measure => omega
          case rel => exact ⟨1, by omega, by omega, rfl, ⟨ho2⟩, ⟨hb2⟩⟩
        · obtain ⟨A5, c5, e5⟩ := Kd.R_slice HO.out
          subst e5
          go_wp2_with (at_builtin; refine Kd.R_append_rows (Kd.int .i64) (Rr := (Kd.int .i64).K w) (w0 := w) w.heap.size rfl (.tmp 31) (.tmp 32) 22 3 (.int .i64 0) 8 rfl Try.underlying22 info3 rfl (by decide) (by omega) _ (l) m A2 m.length c2 (fun _ => True) (fun _ => False) rfl rfl HO.out ?aR ?aK (fun _ hk => hk.elim) (fun _ _ => trivial) HB.out HB.out.size ?aL ?_; (case aR => exact (Kd.C_below HR2.out HB.out)); (case aK => (intro x cs hx; exact hx)); (case aL => (first | omega | (simp; omega))); intro v2 w2 ho2 hb2 hg2 hn2; clear hg2 hn2; obtain ⟨A4, c4, e4⟩ := Kd.R_slice ho2; subst e4)
          go_roundg 0
          case measure => omega
          case rel => exact ⟨2, by omega, by omega, rfl, ⟨by have h := ho2; rw [List.length_append] at h; exact h⟩, ⟨hb2⟩⟩
        · obtain ⟨A5, c5, e5⟩ := Kd.R_slice HO.out
          subst e5
          go_wp2
          go_ret
          exact ⟨_, rfl, HO.out, HB.out⟩
def sortL (l : List Int) : List Int := l.mergeSort fun x y => decide (x ≤ y)
theorem sortL_len (l : List Int) : (sortL l).length = l.length := List.length_mergeSort _
/-- slices.Sort of a row of the call's own. -/
theorem sort_own (v : Value) (l : List Int) (base : Nat) (w : World) (h : Kd.R (Kd.int .i64) 3 w base (fun _ => True) v l) (hl : l.length ≤ 1000000) :
    Calls Try.prog 50 #[v] w fun e w' => e = .returned (.tuple #[]) ∧ Kd.R (Kd.int .i64) 3 w' base (fun _ => True) v (sortL l) ∧ w.grownBy w' v.ownBlock := by
  have hr : RowI w base v l := Kd.own_of_R h
  rcases l with _ | ⟨x, t⟩
  · obtain ⟨A, c, rfl⟩ := Kd.R_slice h
    refine (Try.slices_Sort_int_none A c w).mono ?_
    rintro e w' ⟨rfl, rfl⟩
    have e0 : sortL [] = [] := by simp [sortL]
    rw [e0]
    exact ⟨rfl, h, grown_of_below (Below.refl _ _) _⟩
  · obtain ⟨g, c, cur, rfl, g1, g2, g3, g4, g5, g6⟩ := row_some hr (by simp)
    have glt := (Array.getElem?_eq_some_iff.1 g2).1
    refine (Try.slices_Sort_int g 0 c (x :: t) w (row_holds g2 g6) glt (by omega)).mono ?_
    rintro e w' ⟨rfl, m, os, rfl⟩
    obtain ⟨r1, r2⟩ := row_put m os g1 g2 g3 g4 g5 (sortL_len (x :: t)) (x :: t).length (Nat.le_refl _)
    rw [List.take_of_length_le (by rw [sortL_len]; exact Nat.le_refl _)] at r1
    exact ⟨rfl, Kd.R_of_own r1 (fun _ _ => trivial), r2⟩
/-- A curve is stored into a result's block of its own. -/
theorem store_curve {w W : World} {g : Nat} {a b c v : Value} {x y : Int} {l : List Int} (HB : Below w.heap.size w W) (GE : w.heap.size ≤ g) (BK : W.heap[g]? = some (.cells #[a, b, c] 24 (0, 0))) (hR : Kd.R (Kd.int .i64) 3 W w.heap.size (fun k => k ≠ g) v l) :
    (((W.setCell ⟨g, 0, none⟩ (.int .i64 x)).setCell ⟨g, 1, none⟩ (.int .i64 y)).setCell ⟨g, 2, none⟩ v).heap[g]? = some (.cells #[.int .i64 x, .int .i64 y, v] 24 (0, 0)) ∧
    Kd.R (Kd.int .i64) 3 (((W.setCell ⟨g, 0, none⟩ (.int .i64 x)).setCell ⟨g, 1, none⟩ (.int .i64 y)).setCell ⟨g, 2, none⟩ v) w.heap.size (fun _ => True) v l ∧
    Below w.heap.size w (((W.setCell ⟨g, 0, none⟩ (.int .i64 x)).setCell ⟨g, 1, none⟩ (.int .i64 y)).setCell ⟨g, 2, none⟩ v) :=
  ⟨blk_put (blk_put (blk_put BK 0 _ rfl) 1 _ rfl) 2 _ rfl,
   Kd.R_mono (Kd.R_far (p := ⟨g, 2, none⟩) (Kd.R_far (p := ⟨g, 1, none⟩) (Kd.R_far (p := ⟨g, 0, none⟩) hR (fun _ hk => hk) _) (fun _ hk => hk) _) (fun _ hk => hk) _) (fun _ _ => trivial),
   below_set (below_set (below_set HB GE) GE) GE⟩
theorem blk_sort {w w' : World} {g : Nat} {cs : Array Value} {base : Nat} {v : Value} {l : List Int} (BK : w.heap[g]? = some (.cells cs 24 (0, 0))) (hR : Kd.R (Kd.int .i64) 3 w base (fun _ => True) v l) (hg : w.grownBy w' v.ownBlock) : w'.heap[g]? = some (.cells cs 24 (0, 0)) := by
  refine (hg.block g (Array.getElem?_eq_some_iff.1 BK).1 (fun e => ?_)).trans BK
  obtain ⟨cells, hc⟩ := own_typed hR.2.choose_spec.1 g e.symm
  rw [BK] at hc
  cases hc
def joinR (a0 a1 : Int) (l : List Int) (b0 b1 : Int) (m : List Int) : Int × Int × List Int × Int :=
  if (validC a0 a1 l && validC b0 b1 m) = true then
    (if validC (wrap64 (a0 + b0)) (wrap64 (a1 + b1)) (sortL (l ++ m)) = true then (wrap64 (a0 + b0), wrap64 (a1 + b1), sortL (l ++ m), 0) else (0, 0, [], 4))
  else (0, 0, [], 2)
def curve_Join.f (a0_0 a0_1 : Int) (l0_2 : List Int) (a1_0 a1_1 : Int) (l1_2 : List Int) : Option (Int × Int × List Int × Int) := some (joinR a0_0 a0_1 l0_2 a1_0 a1_1 l1_2)
theorem validC_len {a0 a1 : Int} {l : List Int} (h : validC a0 a1 l = true) : l.length ≤ 64 := by
  unfold validC at h
  simp only [Bool.and_eq_true, decide_eq_true_eq] at h
  exact h.2.2.1
set_option maxHeartbeats 8000000 in
set_option maxRecDepth 100000 in
theorem curve_Join.calls (a0_0 a0_1 : Int) (A0_2 : Option Addr) (c0_2 : Nat) (l0_2 : List Int) (a1_0 a1_1 : Int) (A1_2 : Option Addr) (c1_2 : Nat) (l1_2 : List Int) (r1 r2 : Int) (r3 : List Int) (r4 : Int) (w : World) (hr0_2 : Kd.C (Kd.int .i64) w A0_2 l0_2.length l0_2) (hc0_2 : l0_2.length ≤ c0_2) (hr1_2 : Kd.C (Kd.int .i64) w A1_2 l1_2.length l1_2) (hc1_2 : l1_2.length ≤ c1_2) (h : curve_Join.f a0_0 a0_1 l0_2 a1_0 a1_1 l1_2 = some (r1, r2, r3, r4)) :
    Calls Try.prog 14 #[.agg #[.int .i64 a0_0, .int .i64 a0_1, .slice A0_2 l0_2.length c0_2], .agg #[.int .i64 a1_0, .int .i64 a1_1, .slice A1_2 l1_2.length c1_2]] w fun e w' => ∃ v_ : Value, e = .returned (.tuple #[.agg #[.int .i64 r1, .int .i64 r2, v_], .int .i64 r4]) ∧ Kd.R (Kd.int .i64) 3 w' w.heap.size (fun _ => True) v_ r3 ∧ Below w.heap.size w w' := by
  have hj : joinR a0_0 a0_1 l0_2 a1_0 a1_1 l1_2 = (r1, r2, r3, r4) := Option.some.inj h
  have HR0 := Aside0.mk hr0_2
  have HR1 := Aside0.mk hr1_2
  have HC0 := Aside0.mk hc0_2
  have HC1 := Aside0.mk hc1_2
  unfold joinR at hj
  have V0 := Aside0.mk (show curve_Valid.f a0_0 a0_1 l0_2 = some (validC a0_0 a0_1 l0_2) from rfl)
  have V1 := Aside0.mk (show curve_Valid.f a1_0 a1_1 l1_2 = some (validC a1_0 a1_1 l1_2) from rfl)
  have L0 := Aside0.mk (fun h => @validC_len a0_0 a0_1 l0_2 h)
  have L1 := Aside0.mk (fun h => @validC_len a1_0 a1_1 l1_2 h)
  obtain ⟨ll, hll⟩ : ∃ ll, ll = l0_2 ++ l1_2 := ⟨_, rfl⟩
  rw [← hll] at hj
  have HLL := Aside0.mk hll
  have HJ := Aside0.mk hj
  clear hll
  clear h hj hr0_2 hr1_2 hc0_2 hc1_2
  generalize validC a0_0 a0_1 l0_2 = b0 at V0 L0 HJ
  generalize validC a1_0 a1_1 l1_2 = b1 at V1 L1 HJ
  go_enter Try.func14, Try.ntmps14
  go_wp2_with (first | ((with_reducible refine gate_dst (N := 2) rfl ?_); refine box_event ?hg (N := 2) ?hd (cs := #[.int .i64 a0_0, .int .i64 a0_1, .slice A0_2 l0_2.length c0_2]) (t := 24) ?hr ?_; (case hd => rfl); (case hg => rfl); (case hr => first | (go_simp; done) | (go_simp; rfl)); intro g2 hg w1 hbox hb; have HB1 := Aside0.mk hb; have BKa1 := Aside0.mk hbox; clear hb hg hbox) | ((with_reducible refine gate_dst (N := 3) rfl ?_); refine box_event ?hg (N := 3) ?hd (cs := #[.int .i64 a1_0, .int .i64 a1_1, .slice A1_2 l1_2.length c1_2]) (t := 24) ?hr ?_; (case hd => rfl); (case hg => rfl); (case hr => first | (go_simp; done) | (go_simp; rfl)); intro g3 hg w2 hbox hb; have HB2 := Aside0.mk (below_then HB1.out HB1.out.size hb); have BKa2 := Aside0.mk (blk_below BKa1.out hb); have BKb2 := Aside0.mk hbox; clear hb hg hbox HB1 BKa1) | ((with_reducible refine gate_dst (N := 4) rfl ?_); refine box_event ?hg (N := 4) ?hd (cs := #[.int .i64 0, .int .i64 0, .slice none 0 0]) (t := 24) ?hr ?_; (case hd => rfl); (case hg => rfl); (case hr => first | (go_simp; done) | (go_simp; rfl)); intro g4 hg w3 hbox hb; have HB3 := Aside0.mk (below_then HB2.out HB2.out.size hb); have BKa3 := Aside0.mk (blk_below BKa2.out hb); have BKb3 := Aside0.mk (blk_below BKb2.out hb); have BKc3 := Aside0.mk hbox; have GE := Aside0.mk (show w.heap.size ≤ g4 by rw [hg]; exact HB2.out.size); clear hb hg hbox HB2 BKa2 BKb2; have hx0 : w3.cell? ⟨g2, 0, none⟩ = some (.int .i64 a0_0) := (blk_cell BKa3.out 0).trans rfl; have hx1 : w3.cell? ⟨g2, 1, none⟩ = some (.int .i64 a0_1) := (blk_cell BKa3.out 1).trans rfl; have hx2 : w3.cell? ⟨g2, 2, none⟩ = some (.slice A0_2 l0_2.length c0_2) := (blk_cell BKa3.out 2).trans rfl))
  go_wp2_with (go_at_call 16; (with_reducible refine (curve_Valid.calls a0_0 a0_1 _ _ l0_2 _ _ (Kd.C_below HR0.out HB3.out) HC0.out V0.out).mono ?_); rintro e w4 ⟨rfl, hb4⟩; have HB4 := Aside0.mk (below_then HB3.out HB3.out.size hb4); have BKa4 := Aside0.mk (blk_below BKa3.out hb4); have BKb4 := Aside0.mk (blk_below BKb3.out hb4); have BKc4 := Aside0.mk (blk_below BKc3.out hb4); clear hb4 HB3 BKa3 BKb3 BKc3 hx0 hx1 hx2; have hy0 : w4.cell? ⟨g3, 0, none⟩ = some (.int .i64 a1_0) := (blk_cell BKb4.out 0).trans rfl; have hy1 : w4.cell? ⟨g3, 1, none⟩ = some (.int .i64 a1_1) := (blk_cell BKb4.out 1).trans rfl; have hy2 : w4.cell? ⟨g3, 2, none⟩ = some (.slice A1_2 l1_2.length c1_2) := (blk_cell BKb4.out 2).trans rfl; have hz0 : w4.cell? ⟨g4, 0, none⟩ = some (.int .i64 0) := (blk_cell BKc4.out 0).trans rfl; have hf0 := blk_frozen BKc4.out 0; have hz1 : w4.cell? ⟨g4, 1, none⟩ = some (.int .i64 0) := (blk_cell BKc4.out 1).trans rfl; have hf1 := blk_frozen BKc4.out 1; have hz2 : w4.cell? ⟨g4, 2, none⟩ = some (.slice none 0 0) := (blk_cell BKc4.out 2).trans rfl; have hf2 := blk_frozen BKc4.out 2; cases b0)
  · go_wp2
    obtain ⟨e1, e2, e3⟩ := store_curve (x := 0) (y := 0) (v := .slice none 0 0) HB4.out GE.out BKc4.out (Kd.R_nil _ _ _ _ _)
    obtain ⟨rfl, rfl, rfl, rfl⟩ : 0 = r1 ∧ 0 = r2 ∧ [] = r3 ∧ 2 = r4 := by have h := HJ.out; simpa using h
    refine bodyPost_ret (results_ct rfl _ _ g4 24 _ (0, 0) _ rfl e1 Try.underlying24 rfl (by kernel_rfl)) rfl ?_
    exact ⟨_, rfl, e2, e3⟩
  · go_wp2_with (go_at_call 16; (with_reducible refine (curve_Valid.calls a1_0 a1_1 _ _ l1_2 _ _ (Kd.C_below HR1.out HB4.out) HC1.out V1.out).mono ?_); rintro e w5 ⟨rfl, hb5⟩; have HB5 := Aside0.mk (below_then HB4.out HB4.out.size hb5); have BKa5 := Aside0.mk (blk_below BKa4.out hb5); have BKb5 := Aside0.mk (blk_below BKb4.out hb5); have BKc5 := Aside0.mk (blk_below BKc4.out hb5); clear hb5 HB4 BKa4 BKb4 BKc4 hy0 hy1 hy2 hz0 hz1 hz2 hf0 hf1 hf2; have hx0 : w5.cell? ⟨g2, 0, none⟩ = some (.int .i64 a0_0) := (blk_cell BKa5.out 0).trans rfl; have hx1 : w5.cell? ⟨g2, 1, none⟩ = some (.int .i64 a0_1) := (blk_cell BKa5.out 1).trans rfl; have hx2 : w5.cell? ⟨g2, 2, none⟩ = some (.slice A0_2 l0_2.length c0_2) := (blk_cell BKa5.out 2).trans rfl; have hy0 : w5.cell? ⟨g3, 0, none⟩ = some (.int .i64 a1_0) := (blk_cell BKb5.out 0).trans rfl; have hy1 : w5.cell? ⟨g3, 1, none⟩ = some (.int .i64 a1_1) := (blk_cell BKb5.out 1).trans rfl; have hy2 : w5.cell? ⟨g3, 2, none⟩ = some (.slice A1_2 l1_2.length c1_2) := (blk_cell BKb5.out 2).trans rfl; have hz0 : w5.cell? ⟨g4, 0, none⟩ = some (.int .i64 0) := (blk_cell BKc5.out 0).trans rfl; have hf0 := blk_frozen BKc5.out 0; have hz1 : w5.cell? ⟨g4, 1, none⟩ = some (.int .i64 0) := (blk_cell BKc5.out 1).trans rfl; have hf1 := blk_frozen BKc5.out 1; have hz2 : w5.cell? ⟨g4, 2, none⟩ = some (.slice none 0 0) := (blk_cell BKc5.out 2).trans rfl; have hf2 := blk_frozen BKc5.out 2; cases b1)
    · go_wp2
      obtain ⟨e1, e2, e3⟩ := store_curve (x := 0) (y := 0) (v := .slice none 0 0) HB5.out GE.out BKc5.out (Kd.R_nil _ _ _ _ _)
      obtain ⟨rfl, rfl, rfl, rfl⟩ : 0 = r1 ∧ 0 = r2 ∧ [] = r3 ∧ 2 = r4 := by have h := HJ.out; simpa using h
      refine bodyPost_ret (results_ct rfl _ _ g4 24 _ (0, 0) _ rfl e1 Try.underlying24 rfl (by kernel_rfl)) rfl ?_
      exact ⟨_, rfl, e2, e3⟩
    · have hl0 := L0.out (by first | trivial | rfl)
      have hl1 := L1.out (by first | trivial | rfl)
      have HL := Aside0.mk (And.intro hl0 hl1)
      clear hl0 hl1
      go_wp2_with (go_at_call 49; (with_reducible refine (concat_two w5.heap.size A0_2 A1_2 c0_2 c1_2 l0_2 l1_2 _ (blk_new _ _) (Kd.C_below HR0.out (below_alloc HB5.out _)) (Kd.C_below HR1.out (below_alloc HB5.out _)) (by have := HL.out; omega) (by have := HL.out; omega)).mono ?_); rintro e w6 ⟨v6, rfl, ho6, hb6⟩; rw [← HLL.out] at ho6; have hb56 := below_then (below_alloc (Below.refl w5.heap.size w5) (.cells #[.slice A0_2 l0_2.length c0_2, .slice A1_2 l1_2.length c1_2] 22)) (below_alloc (Below.refl w5.heap.size w5) _).size hb6; have HO6 := Aside0.mk (Kd.R_lower ho6 (Nat.le_trans HB5.out.size (below_alloc (Below.refl w5.heap.size w5) _).size)); have HB6 := Aside0.mk (below_then HB5.out HB5.out.size hb56); have BKa6 := Aside0.mk (blk_below BKa5.out hb56); have BKb6 := Aside0.mk (blk_below BKb5.out hb56); have BKc6 := Aside0.mk (blk_below BKc5.out hb56); clear ho6 hb6 hb56 HB5 BKa5 BKb5 BKc5 hx0 hx1 hx2 hy0 hy1 hy2 hz0 hz1 hz2 hf0 hf1 hf2; obtain ⟨A6, c6, e6⟩ := Kd.R_slice HO6.out; subst e6)
      have hsort := sort_own _ ll w.heap.size w6 HO6.out (by have := HL.out; rw [HLL.out, List.length_append]; omega)
      have HS := Aside0.mk hsort
      clear hsort
      go_wp2_with (go_at_call 50; (with_reducible refine HS.out.mono ?_); rintro e w7 ⟨rfl, ho7, hg7⟩; have HO7 := Aside0.mk ho7; have HB7 := Aside0.mk (HB6.out.grown hg7 HB6.out.size (fun k hk => Kd.R_base HO6.out k hk)); have BKa7 := Aside0.mk (blk_sort BKa6.out HO6.out hg7); have BKb7 := Aside0.mk (blk_sort BKb6.out HO6.out hg7); have BKc7 := Aside0.mk (blk_sort BKc6.out HO6.out hg7); clear ho7 hg7 HB6 BKa6 BKb6 BKc6 HS; have hx0 : w7.cell? ⟨g2, 0, none⟩ = some (.int .i64 a0_0) := (blk_cell BKa7.out 0).trans rfl; have hx1 : w7.cell? ⟨g2, 1, none⟩ = some (.int .i64 a0_1) := (blk_cell BKa7.out 1).trans rfl; have hx2 : w7.cell? ⟨g2, 2, none⟩ = some (.slice A0_2 l0_2.length c0_2) := (blk_cell BKa7.out 2).trans rfl; have hy0 : w7.cell? ⟨g3, 0, none⟩ = some (.int .i64 a1_0) := (blk_cell BKb7.out 0).trans rfl; have hy1 : w7.cell? ⟨g3, 1, none⟩ = some (.int .i64 a1_1) := (blk_cell BKb7.out 1).trans rfl; have hy2 : w7.cell? ⟨g3, 2, none⟩ = some (.slice A1_2 l1_2.length c1_2) := (blk_cell BKb7.out 2).trans rfl)
      have HM := Aside0.mk (show curve_made.f (wrap64 (a0_0 + a1_0)) (wrap64 (a0_1 + a1_1)) (sortL ll) = some (r1, r2, r3, r4) by
        have h := HJ.out
        rw [if_pos (by first | trivial | rfl)] at h
        unfold curve_made.f curve_Valid.f
        rw [Option.bind_some, ← h]
        cases validC (wrap64 (a0_0 + a1_0)) (wrap64 (a0_1 + a1_1)) (sortL ll) <;> rfl)
      have hlt4 := (Array.getElem?_eq_some_iff.1 BKc7.out).1
      have HLT := Aside0.mk hlt4
      clear hlt4
      go_wp2_with (go_at_call 51; (with_reducible refine (curve_made.calls _ _ (fun k_ => True ∧ k_ ≠ g4) _ (sortL ll) r1 r2 r3 r4 w w7 HB7.out (Kd.R_types HO7.out BKc7.out (by decide)) HM.out).mono ?_); rintro e w8 ⟨v8, rfl, ho8, hb8, hk8⟩; obtain ⟨A8, c8, e8⟩ := Kd.R_slice ho8; subst e8; have BKc8 := Aside0.mk ((hk8.2 g4 HLT.out (fun h => h.2 rfl)).trans BKc7.out); have HB8 := Aside0.mk hb8; have HR8 := Aside0.mk (Kd.R_mono (ok' := fun k_ => k_ ≠ g4) ho8 (fun k hk => by rcases hk with hk | hk; exact hk.2; have := HLT.out; omega)); clear ho8 hb8 hk8 hx0 hx1 hx2 hy0 hy1 hy2; have hz0 : w8.cell? ⟨g4, 0, none⟩ = some (.int .i64 0) := (blk_cell BKc8.out 0).trans rfl; have hf0 := blk_frozen BKc8.out 0; have hz1 : w8.cell? ⟨g4, 1, none⟩ = some (.int .i64 0) := (blk_cell BKc8.out 1).trans rfl; have hf1 := blk_frozen BKc8.out 1; have hz2 : w8.cell? ⟨g4, 2, none⟩ = some (.slice none 0 0) := (blk_cell BKc8.out 2).trans rfl; have hf2 := blk_frozen BKc8.out 2)
      obtain ⟨e1, e2, e3⟩ := store_curve (x := r1) (y := r2) HB8.out GE.out BKc8.out HR8.out
      refine bodyPost_ret (results_ct rfl _ _ g4 24 _ (0, 0) _ rfl e1 Try.underlying24 rfl (by kernel_rfl)) rfl ?_
      exact ⟨_, rfl, e2, e3⟩
end Go.Proofs.Ytingjpcgehgiiaa.Pr
end
section
namespace Go.Proofs.Ytingjpcgehgiiaa.Pr
open Go.RowKit Go.Proofs.YtingjpcgehgiiaaW.PrintWords Go.Proofs.YtingjpcgehgiiaaW.PrintLast Go.Proofs.YtingjpcgehgiiaaW.PrintMore
set_option linter.unusedVariables false
set_option linter.unusedSimpArgs false
def difL (vs : List Int) (n : Nat) : List Int := (List.range n).map fun i : Nat => rd vs ((i + 1 : Nat) : Int) - rd vs (i : Int)
theorem difL_len (vs : List Int) (n : Nat) : (difL vs n).length = n := by unfold difL; rw [List.length_map, List.length_range]
theorem difL_succ (vs : List Int) (n : Nat) : difL vs (n + 1) = difL vs n ++ [rd vs ((n + 1 : Nat) : Int) - rd vs (n : Int)] := by
  unfold difL
  rw [List.range_succ, List.map_append]
  rfl
theorem through_step (from_ : Int) (vs : List Int) {i : Nat} (h1 : i + 1 < vs.length) (hl : vs.length ≤ 1000) (hb : -4611686018427387904 ≤ rd vs ((i + 1 : Nat) : Int) - rd vs (i : Int) ∧ rd vs ((i + 1 : Nat) : Int) - rd vs (i : Int) ≤ 4611686018427387904) (k : Nat) :
    curve_through.l0 (k + 1) vs ((i + 1 : Nat) : Int) from_ (rd vs 0) (difL vs i) = curve_through.l0 k vs ((i + 2 : Nat) : Int) from_ (rd vs 0) (difL vs (i + 1)) := by
  have e1 : wrap64 (((i + 1 : Nat) : Int) - 1) = (i : Int) := by clear hb; unfold wrap64; omega
  have e2 : wrap64 (((i + 1 : Nat) : Int) + 1) = ((i + 2 : Nat) : Int) := by clear hb e1; unfold wrap64; omega
  have e3 : wrap64 (rd vs ((i + 1 : Nat) : Int) - rd vs (i : Int)) = rd vs ((i + 1 : Nat) : Int) - rd vs (i : Int) := by clear e1 e2; unfold wrap64; omega
  have q1 : ((i + 1 : Nat) : Int) < (vs.length : Int) := by clear e1 e2 e3 hb; omega
  have q2 : (0 : Int) ≤ ((i + 1 : Nat) : Int) := by clear e1 e2 e3 hb; omega
  have q3 : (0 : Int) ≤ (i : Int) := by clear e1 e2 e3 hb; omega
  have q4 : (i : Int) < (vs.length : Int) := by clear e1 e2 e3 hb; omega
  have q5 : (difL vs i).length < 17592186044416 := by rw [difL_len]; clear e1 e2 e3 hb; omega
  simp only [curve_through.l0]
  rw [e1, if_pos q1, if_pos q2, if_pos q3, if_pos q4, if_pos q5, e2, e3, difL_succ]
theorem through_loop (from_ : Int) (vs : List Int) (hl : vs.length ≤ 1000) (hb : ∀ i : Nat, i + 1 < vs.length → -4611686018427387904 ≤ rd vs ((i + 1 : Nat) : Int) - rd vs (i : Int) ∧ rd vs ((i + 1 : Nat) : Int) - rd vs (i : Int) ≤ 4611686018427387904) :
    ∀ n i : Nat, i + 1 + n = vs.length → Ev (fun k => curve_through.l0 k vs ((i + 1 : Nat) : Int) from_ (rd vs 0) (difL vs i)) (from_, rd vs 0, difL vs (vs.length - 1))
  | 0, i, h => by
    have e : i = vs.length - 1 := by omega
    refine Ev.step (f := fun _ => some (from_, rd vs 0, difL vs (vs.length - 1))) (fun k => ?_) (Ev.now _)
    simp only [curve_through.l0]
    rw [if_neg (by omega), ← e]
  | n + 1, i, h => Ev.step (through_step from_ vs (by omega) hl (hb i (by omega))) (through_loop from_ vs hl hb n (i + 1) (by omega))
theorem through_ev (from_ : Int) (vs : List Int) (h0 : 0 < vs.length) (hl : vs.length ≤ 1000) (hb : ∀ i : Nat, i + 1 < vs.length → -4611686018427387904 ≤ rd vs ((i + 1 : Nat) : Int) - rd vs (i : Int) ∧ rd vs ((i + 1 : Nat) : Int) - rd vs (i : Int) ≤ 4611686018427387904) :
    Ev (fun k => curve_through.f k from_ vs) (from_, rd vs 0, difL vs (vs.length - 1)) := by
  unfold curve_through.f
  have h := through_loop from_ vs hl hb (vs.length - 1) 0 (by omega)
  have e : difL vs 0 = [] := rfl
  rw [e] at h
  exact Ev.congr (fun k => if_pos (by omega)) h
/-- What Conj returns. -/
def conOk (c : S24) (lo hi : Int) : Prop := Vc c ∧ -1048576 ≤ lo ∧ lo ≤ hi ∧ hi ≤ lo + 64 ∧ hi ≤ 1048576
instance (c : S24) (lo hi : Int) : Decidable (conOk c lo hi) := inferInstanceAs (Decidable (_ ∧ _))
end Go.Proofs.Ytingjpcgehgiiaa.Pr
end
section
namespace Go.Proofs.Ytingjpcgehgiiaa.Pr
open Go.RowKit Go.Proofs.YtingjpcgehgiiaaW.PrintWords Go.Proofs.YtingjpcgehgiiaaW.PrintLast Go.Proofs.YtingjpcgehgiiaaW.PrintMore
set_option linter.unusedVariables false
set_option linter.unusedSimpArgs false
theorem succ_w64 {i : Nat} (h : i ≤ 9223372036854775806) : wrap64 ((i : Int) + 1) = ((i + 1 : Nat) : Int) := by unfold wrap64; omega
theorem pred_w64 {i : Nat} (h : i ≤ 9223372036854775806) : wrap64 (((i + 1 : Nat) : Int) - 1) = (i : Int) := by unfold wrap64; omega
theorem same_loop (l : List Int) (hn : l.length ≤ 9223372036854775807) : ∀ (d i : Nat), l.length - i = d → Ev (fun k => kimberlitelaw03_same.l0 k l l (i : Int)) true
  | 0, i, h => Ev.step (f := fun _ => some true) (fun k => by simp only [kimberlitelaw03_same.l0]; rw [if_neg (by omega)]) (Ev.now _)
  | d + 1, i, h => by
    have ew : wrap64 ((i : Int) + 1) = ((i + 1 : Nat) : Int) := by unfold wrap64; omega
    refine Ev.step (fun k => ?_) (same_loop l hn d (i + 1) (by omega))
    simp only [kimberlitelaw03_same.l0]
    rw [if_pos (show (i : Int) < (l.length : Int) by omega), if_pos (show 0 ≤ (i : Int) by omega), if_pos (show (i : Int) < (l.length : Int) by omega), if_pos trivial, ew]
theorem same_ev (l : List Int) (hn : l.length ≤ 9223372036854775807) : Ev (fun k => kimberlitelaw03_same.f k l l) true := by
  unfold kimberlitelaw03_same.f
  exact Ev.congr (fun k => if_pos rfl) (same_loop l hn _ 0 rfl)
theorem alike_ev (a0 a1 : Int) (l : List Int) (hn : l.length ≤ 9223372036854775807) : Ev (fun k => kimberlitelaw03_alike.f k a0 a1 l a0 a1 l) true := by
  unfold kimberlitelaw03_alike.f
  exact Ev.congr (fun k => if_pos rfl) (Ev.congr (fun k => if_pos rfl) (Ev.bind (same_ev l hn) (Ev.now _)))
theorem Ev.two {α : Type} {g f : Nat → Option α} {r : α} (h : ∀ k, g (k + 2) = f k) (k : Ev f r) : Ev g r := by
  obtain ⟨K, hK⟩ := k
  refine ⟨K + 2, fun n hn => ?_⟩
  obtain ⟨m, rfl⟩ : ∃ m, n = m + 2 := ⟨n - 2, by omega⟩
  rw [h]
  exact hK m (by omega)
end Go.Proofs.Ytingjpcgehgiiaa.Pr
end
section
namespace Go.Proofs.Ytingjpcgehgiiaa.Pr
open Go.RowKit Go.Shelf Go.Proofs.YtingjpcgehgiiaaW.PrintWords Go.Proofs.YtingjpcgehgiiaaW.PrintLast Go.Proofs.YtingjpcgehgiiaaW.PrintMore
set_option linter.unusedVariables false
set_option linter.unusedSimpArgs false
theorem enter70 : ∀ (args : Array Value) (w : World), (callFunc 70 args).run Try.prog w = .ok (.enter 70 args) w := enters_of Try.func70 (by kernel_rfl) rfl
set_option maxRecDepth 100000 in
theorem pred_value (w : World) : PredI 70 #[] (fun s => !inB s 1099511627776) w := by
  intro W x hB
  have H := Aside0.mk (within_f x 1099511627776 (by decide) (by decide))
  change Calls Try.prog 70 #[.int .i64 x] W _
  go_enter Try.func70, Try.ntmps70
  go_wp2_with (go_at_call 52; (with_reducible refine (curve_within.calls x 1099511627776 _ _ H.out).mono ?_); rintro e w1 ⟨rfl, hd⟩)
  go_ret
  exact ⟨rfl, below_then hB hB.size hd.below⟩
def ofR (a0 : Int) (l : List Int) : Int × Int × List Int × Int :=
  if 65 < l.length then (0, 0, [], 3) else if l.length = 0 then (0, 0, [], 2) else if l.any (fun s => !inB s 1099511627776) = true then (0, 0, [], 2) else
    if sortedI (difL l (l.length - 1)) = true then (if validC a0 (rd l 0) (difL l (l.length - 1)) = true then (a0, rd l 0, difL l (l.length - 1), 0) else (0, 0, [], 4)) else (0, 0, [], 10)
def curve_Of.f (k : Nat) (a0 : Int) (l : List Int) : Option (Int × Int × List Int × Int) := some (ofR a0 l)
theorem curve_Of.mono : ∀ a0 a1 k, LeO (curve_Of.f k a0 a1) (curve_Of.f (k + 1) a0 a1) := fun _ _ _ => LeO.refl _
theorem within_all {l : List Int} (h : ¬l.any (fun s => !inB s 1099511627776) = true) : ∀ i : Nat, i < l.length → -1099511627776 ≤ rd l (i : Int) ∧ rd l (i : Int) ≤ 1099511627776 := by
  intro i hi
  rw [rd_nat l i hi]
  apply Classical.byContradiction
  intro hn
  apply h
  rw [List.any_eq_true]
  refine ⟨l[i], List.getElem_mem hi, ?_⟩
  unfold inB
  rw [Bool.not_eq_true', Bool.and_eq_false_iff, decide_eq_false_iff_not, decide_eq_false_iff_not]
  omega
set_option maxHeartbeats 2000000 in
set_option maxRecDepth 100000 in
theorem curve_Of.calls (k : Nat) (a0 : Int) (A1 : Option Addr) (c1 : Nat) (l1 : List Int) (r1 r2 : Int) (r3 : List Int) (r4 : Int) (w : World) (hr1 : Kd.C (Kd.int .i64) w A1 l1.length l1) (hc1 : l1.length ≤ c1) (h : curve_Of.f k a0 l1 = some (r1, r2, r3, r4)) :
    Calls Try.prog 31 #[.int .i64 a0, .slice A1 l1.length c1] w fun e w' => ∃ v_ : Value, e = .returned (.tuple #[.agg #[.int .i64 r1, .int .i64 r2, v_], .int .i64 r4]) ∧ Kd.R (Kd.int .i64) 3 w' w.heap.size (fun _ => True) v_ r3 ∧ Below w.heap.size w w' := by
  have hj : ofR a0 l1 = (r1, r2, r3, r4) := Option.some.inj h
  have HR := Aside0.mk hr1
  have HC := Aside0.mk hc1
  have hu24 := Try.underlying24
  unfold ofR at hj
  have HJ := Aside0.mk hj
  clear h hj hr1 hc1
  go_enter Try.func31, Try.ntmps31
  go_upto_region 1 with ((with_reducible refine gate_dst (N := 4) rfl ?_); refine box_event ?hg (N := 4) ?hd (cs := #[.int .i64 0, .int .i64 0, .slice none 0 0]) (t := 24) ?hr ?_; (case hd => rfl); (case hg => rfl); (case hr => first | (go_simp; done) | (go_simp; rfl)); intro g4 hg w1 hbox hb; have HB := Aside0.mk hb; have BK := Aside0.mk hbox; have GE := Aside0.mk (show w.heap.size ≤ g4 by rw [hg]; exact Nat.le_refl _); clear hb hg hbox)
  by_cases h65 : 65 < l1.length
  · have h65z : (65 : Int) < (l1.length : Int) := by omega
    have hz0 : w1.cell? ⟨g4, 0, none⟩ = some (.int .i64 0) := (blk_cell BK.out 0).trans rfl
    have hf0 := blk_frozen BK.out 0
    have hz1 : w1.cell? ⟨g4, 1, none⟩ = some (.int .i64 0) := (blk_cell BK.out 1).trans rfl
    have hf1 := blk_frozen BK.out 1
    have hz2 : w1.cell? ⟨g4, 2, none⟩ = some (.slice none 0 0) := (blk_cell BK.out 2).trans rfl
    have hf2 := blk_frozen BK.out 2
    go_wp2
    obtain ⟨e1, e2, e3⟩ := store_curve (x := 0) (y := 0) (v := .slice none 0 0) HB.out GE.out BK.out (Kd.R_nil _ _ _ _ _)
    obtain ⟨rfl, rfl, rfl, rfl⟩ : 0 = r1 ∧ 0 = r2 ∧ [] = r3 ∧ 3 = r4 := by have h := HJ.out; rw [if_pos h65] at h; simpa using h
    refine bodyPost_ret (results_ct rfl _ _ g4 24 _ (0, 0) _ rfl e1 Try.underlying24 rfl (by kernel_rfl)) rfl ?_
    exact ⟨_, rfl, e2, e3⟩
  · have h65z : ¬(65 : Int) < (l1.length : Int) := by omega
    by_cases h0 : l1.length = 0
    · have h0z : ((l1.length : Int) == 0) = true := by rw [beq_iff_eq]; omega
      have hz0 : w1.cell? ⟨g4, 0, none⟩ = some (.int .i64 0) := (blk_cell BK.out 0).trans rfl
      have hf0 := blk_frozen BK.out 0
      have hz1 : w1.cell? ⟨g4, 1, none⟩ = some (.int .i64 0) := (blk_cell BK.out 1).trans rfl
      have hf1 := blk_frozen BK.out 1
      have hz2 : w1.cell? ⟨g4, 2, none⟩ = some (.slice none 0 0) := (blk_cell BK.out 2).trans rfl
      have hf2 := blk_frozen BK.out 2
      go_wp2
      obtain ⟨e1, e2, e3⟩ := store_curve (x := 0) (y := 0) (v := .slice none 0 0) HB.out GE.out BK.out (Kd.R_nil _ _ _ _ _)
      obtain ⟨rfl, rfl, rfl, rfl⟩ : 0 = r1 ∧ 0 = r2 ∧ [] = r3 ∧ 2 = r4 := by have h := HJ.out; rw [if_neg h65, if_pos h0] at h; simpa using h
      refine bodyPost_ret (results_ct rfl _ _ g4 24 _ (0, 0) _ rfl e1 Try.underlying24 rfl (by kernel_rfl)) rfl ?_
      exact ⟨_, rfl, e2, e3⟩
    · have h0z : ((l1.length : Int) == 0) = false := by rw [beq_eq_false_iff_ne]; omega
      by_cases hany : l1.any (fun s => !inB s 1099511627776) = true
      · go_upto_region 4 with (go_at_call 54; (with_reducible refine (containsFunc_int 70 #[] _ enter70 _ _ l1 _ (Kd.C_below HR.out HB.out) (pred_value _)).mono ?_); rintro e w2 ⟨rfl, hb⟩; have BK2 := Aside0.mk (blk_below BK.out hb); have HB2 := Aside0.mk (below_step HB.out hb); clear hb; rw [hany])
        have hz0 : w2.cell? ⟨g4, 0, none⟩ = some (.int .i64 0) := (blk_cell BK2.out 0).trans rfl
        have hf0 := blk_frozen BK2.out 0
        have hz1 : w2.cell? ⟨g4, 1, none⟩ = some (.int .i64 0) := (blk_cell BK2.out 1).trans rfl
        have hf1 := blk_frozen BK2.out 1
        have hz2 : w2.cell? ⟨g4, 2, none⟩ = some (.slice none 0 0) := (blk_cell BK2.out 2).trans rfl
        have hf2 := blk_frozen BK2.out 2
        go_wp2
        obtain ⟨e1, e2, e3⟩ := store_curve (x := 0) (y := 0) (v := .slice none 0 0) HB2.out GE.out BK2.out (Kd.R_nil _ _ _ _ _)
        obtain ⟨rfl, rfl, rfl, rfl⟩ : 0 = r1 ∧ 0 = r2 ∧ [] = r3 ∧ 2 = r4 := by have h := HJ.out; rw [if_neg h65, if_neg h0, if_pos hany] at h; simpa using h
        refine bodyPost_ret (results_ct rfl _ _ g4 24 _ (0, 0) _ rfl e1 Try.underlying24 rfl (by kernel_rfl)) rfl ?_
        exact ⟨_, rfl, e2, e3⟩
      · have hany2 : l1.any (fun s => !inB s 1099511627776) = false := Bool.eq_false_iff.2 hany
        have hall := within_all hany
        obtain ⟨kt, ht⟩ := (through_ev a0 l1 (by omega) (by omega) (fun i hi => by have a := hall i (by omega); have b := hall (i + 1) hi; omega)).rounds
        have HT := Aside0.mk ht
        have HJ2 := Aside0.mk (show (if sortedI (difL l1 (l1.length - 1)) = true then (if validC a0 (rd l1 0) (difL l1 (l1.length - 1)) = true then (a0, rd l1 0, difL l1 (l1.length - 1), (0 : Int)) else (0, 0, [], 4)) else (0, 0, [], 10)) = (r1, r2, r3, r4) by have h := HJ.out; rw [if_neg h65, if_neg h0, if_neg hany] at h; exact h)
        clear ht hall HJ
        have HLD := Aside0.mk (show (difL l1 (l1.length - 1)).length ≤ 9223372036854775807 by rw [difL_len]; omega)
        generalize difL l1 (l1.length - 1) = dl at HT HJ2 HLD
        obtain ⟨ks, hs⟩ := (sorted_ev dl HLD.out).rounds
        have HS := Aside0.mk hs
        clear hs hany h65 h0 HLD
        generalize sortedI dl = bs at HS HJ2
        go_upto_region 5 with (go_at_call 54; (with_reducible refine (containsFunc_int 70 #[] _ enter70 _ _ l1 _ (Kd.C_below HR.out HB.out) (pred_value _)).mono ?_); rintro e w2 ⟨rfl, hb⟩; have BK2 := Aside0.mk (blk_below BK.out hb); have HB2 := Aside0.mk (below_step HB.out hb); clear hb; rw [hany2])
        go_upto_region 6 with (go_at_call 71; (with_reducible refine (curve_through.calls kt a0 _ _ l1 _ _ _ _ (Kd.C_below HR.out HB2.out) HC.out HT.out).mono ?_); rintro e w3 ⟨v3, rfl, ho, hb⟩; have BK3 := Aside0.mk (blk_below BK2.out hb); have HB3 := Aside0.mk (below_step HB2.out hb); have HO3 := Aside0.mk (Kd.R_lower ho (below_size HB2.out)); clear hb ho; obtain ⟨A3, c3, e3⟩ := Kd.R_slice HO3.out; subst e3)
        have n0_ := Aside0.mk (blk_new w3 (.cells #[.int .i64 a0, .int .i64 (rd l1 0), .slice A3 dl.length c3] 24))
        have n1_ := Aside0.mk (blk_alloc BK3.out (.cells #[.int .i64 a0, .int .i64 (rd l1 0), .slice A3 dl.length c3] 24))
        have n2_ := Aside0.mk (below_alloc HB3.out (.cells #[.int .i64 a0, .int .i64 (rd l1 0), .slice A3 dl.length c3] 24))
        have n3_ := Aside0.mk (Kd.R_alloc HO3.out (.cells #[.int .i64 a0, .int .i64 (rd l1 0), .slice A3 dl.length c3] 24))
        clear BK3 HB3 HO3
        generalize w3.alloc (.cells #[.int .i64 a0, .int .i64 (rd l1 0), .slice A3 dl.length c3] 24) = w4 at n0_ n1_ n2_ n3_ ⊢
        generalize w3.heap.size = g6 at n0_ ⊢
        have hz0 : w4.cell? ⟨g6, 2, none⟩ = some (.slice A3 dl.length c3) := (blk_cell n0_.out 2).trans rfl
        have HG := Aside0.mk (show w.heap.size ≤ g4 from GE.out)
        go_wp2_with (go_at_call 53; (with_reducible refine (slices_IsSorted_int_int.calls ks _ _ dl _ _ (Kd.R_reads' n3_.out).2.2 (Kd.R_reads' n3_.out).2.1 HS.out).mono ?_); rintro e w5 ⟨rfl, hd⟩; have hb := hd.below; have BX := Aside0.mk (blk_below n0_.out hb); have BK5 := Aside0.mk (blk_below n1_.out hb); have HB5 := Aside0.mk (below_step n2_.out hb); have HO := Aside0.mk (Kd.R_below n3_.out hb); clear hz0 hb hd n0_ n1_ n2_ n3_; have hx0 : w5.cell? ⟨g6, 0, none⟩ = some (.int .i64 a0) := (blk_cell BX.out 0).trans rfl; have hx1 : w5.cell? ⟨g6, 1, none⟩ = some (.int .i64 (rd l1 0)) := (blk_cell BX.out 1).trans rfl; have hx2 : w5.cell? ⟨g6, 2, none⟩ = some (.slice A3 dl.length c3) := (blk_cell BX.out 2).trans rfl; have hz0 : w5.cell? ⟨g4, 0, none⟩ = some (.int .i64 0) := (blk_cell BK5.out 0).trans rfl; have hf0 := blk_frozen BK5.out 0; have hz1 : w5.cell? ⟨g4, 1, none⟩ = some (.int .i64 0) := (blk_cell BK5.out 1).trans rfl; have hf1 := blk_frozen BK5.out 1; have hz2 : w5.cell? ⟨g4, 2, none⟩ = some (.slice none 0 0) := (blk_cell BK5.out 2).trans rfl; have hf2 := blk_frozen BK5.out 2; cases bs)
        · go_wp2
          obtain ⟨e1, e2, e3⟩ := store_curve (x := 0) (y := 0) (v := .slice none 0 0) HB5.out GE.out BK5.out (Kd.R_nil _ _ _ _ _)
          obtain ⟨rfl, rfl, rfl, rfl⟩ : 0 = r1 ∧ 0 = r2 ∧ [] = r3 ∧ 10 = r4 := by have h := HJ2.out; simpa using h
          refine bodyPost_ret (results_ct rfl _ _ g4 24 _ (0, 0) _ rfl e1 Try.underlying24 rfl (by kernel_rfl)) rfl ?_
          exact ⟨_, rfl, e2, e3⟩
        · have HM := Aside0.mk (show curve_made.f a0 (rd l1 0) dl = some (r1, r2, r3, r4) by
            have h := HJ2.out
            rw [if_pos trivial] at h
            unfold curve_made.f curve_Valid.f
            rw [Option.bind_some, ← h]
            cases validC a0 (rd l1 0) dl <;> rfl)
          have HLT := Aside0.mk (Array.getElem?_eq_some_iff.1 BK5.out).1
          go_wp2_with (go_at_call 51; (with_reducible refine (curve_made.calls _ _ (fun k_ => True ∧ k_ ≠ g4) _ dl r1 r2 r3 r4 w w5 HB5.out (Kd.R_types HO.out BK5.out (by decide)) HM.out).mono ?_); rintro e w8 ⟨v8, rfl, ho8, hb8, hk8⟩; obtain ⟨A8, c8, e8⟩ := Kd.R_slice ho8; subst e8; have BK8 := Aside0.mk ((hk8.2 g4 HLT.out (fun h => h.2 rfl)).trans BK5.out); have HB8 := Aside0.mk hb8; have HR8 := Aside0.mk (Kd.R_mono (ok' := fun k_ => k_ ≠ g4) ho8 (fun k hk => by rcases hk with hk | hk; exact hk.2; have := HLT.out; omega)); clear ho8 hb8 hk8 hx0 hx1 hx2 hz0 hf0 hz1 hf1 hz2 hf2; have hz0 : w8.cell? ⟨g4, 0, none⟩ = some (.int .i64 0) := (blk_cell BK8.out 0).trans rfl; have hf0 := blk_frozen BK8.out 0; have hz1 : w8.cell? ⟨g4, 1, none⟩ = some (.int .i64 0) := (blk_cell BK8.out 1).trans rfl; have hf1 := blk_frozen BK8.out 1; have hz2 : w8.cell? ⟨g4, 2, none⟩ = some (.slice none 0 0) := (blk_cell BK8.out 2).trans rfl; have hf2 := blk_frozen BK8.out 2)
          obtain ⟨e1, e2, e3⟩ := store_curve (x := r1) (y := r2) HB8.out GE.out BK8.out HR8.out
          refine bodyPost_ret (results_ct rfl _ _ g4 24 _ (0, 0) _ rfl e1 Try.underlying24 rfl (by kernel_rfl)) rfl ?_
          exact ⟨_, rfl, e2, e3⟩
end Go.Proofs.Ytingjpcgehgiiaa.Pr
end
section
namespace Go.Proofs.Ytingjpcgehgiiaa.Pr
open Go.RowKit Go.Proofs.YtingjpcgehgiiaaW.PrintWords Go.Proofs.YtingjpcgehgiiaaW.PrintLast Go.Proofs.YtingjpcgehgiiaaW.PrintMore
attribute [local go_sem] max2_int min2_int max_two min_two max_three min_three max_four min_four   -- for this text's walks alone
set_option linter.unusedVariables false
set_option linter.unusedSimpArgs false
mutual
def kimberliteref03_Valid.j0 : Nat → Bool → Int → Int → List Int → Option (Bool)
 | 0, _, _, _, _ => none
 | k + 1, x27, x159000, x159001, x159002 => if x27 = true then (some false) else (kimberliteref03_Valid.l0 k 0 x159000 x159001 x159002)
def kimberliteref03_Valid.l0 : Nat → Int → Int → Int → List Int → Option (Bool)
 | 0, _, _, _, _ => none
 | k + 1, x3, x159000, x159001, x159002 => if x3 < (x159002.length : Int) then (if 0 ≤ x3 then (if (rd x159002 x3) < (-1048576) then (kimberliteref03_Valid.j2 k x3 true x159000 x159001 x159002) else (if (rd x159002 x3) > 1048576 then (kimberliteref03_Valid.j2 k x3 true x159000 x159001 x159002) else (if x3 > 0 then (if 0 ≤ (wrap64 (x3 - 1)) then (if (wrap64 (x3 - 1)) < (x159002.length : Int) then (kimberliteref03_Valid.j2 k x3 (decide ((rd x159002 (wrap64 (x3 - 1))) > (rd x159002 x3))) x159000 x159001 x159002) else (none)) else (none)) else (kimberliteref03_Valid.j2 k x3 false x159000 x159001 x159002)))) else (none)) else (some true)
def kimberliteref03_Valid.j2 : Nat → Int → Bool → Int → Int → List Int → Option (Bool)
 | 0, _, _, _, _, _ => none
 | k + 1, x3, x66, x159000, x159001, x159002 => if x66 = true then (some false) else (kimberliteref03_Valid.l0 k (wrap64 (x3 + 1)) x159000 x159001 x159002)
end
def kimberliteref03_Valid.f (k : Nat) (a0_0 : Int) (a0_1 : Int) (l0_2 : List Int) : Option (Bool) := if a0_0 < (-1048576) then (kimberliteref03_Valid.j0 k true a0_0 a0_1 l0_2) else (if a0_0 > 1048576 then (kimberliteref03_Valid.j0 k true a0_0 a0_1 l0_2) else (if a0_1 < (-1099511627776) then (kimberliteref03_Valid.j0 k true a0_0 a0_1 l0_2) else (if a0_1 > 1099511627776 then (kimberliteref03_Valid.j0 k true a0_0 a0_1 l0_2) else (kimberliteref03_Valid.j0 k (decide ((l0_2.length : Int) > 64)) a0_0 a0_1 l0_2))))
theorem kimberliteref03_Valid.mono_l : ∀ k, (∀ y0 y1 y2 y3, LeO (kimberliteref03_Valid.j0 k y0 y1 y2 y3) (kimberliteref03_Valid.j0 (k + 1) y0 y1 y2 y3)) ∧ (∀ y0 y1 y2 y3, LeO (kimberliteref03_Valid.l0 k y0 y1 y2 y3) (kimberliteref03_Valid.l0 (k + 1) y0 y1 y2 y3)) ∧ (∀ y0 y1 y2 y3 y4, LeO (kimberliteref03_Valid.j2 k y0 y1 y2 y3 y4) (kimberliteref03_Valid.j2 (k + 1) y0 y1 y2 y3 y4))
 | 0 => ⟨fun _ _ _ _ r h => by simp [kimberliteref03_Valid.j0] at h, fun _ _ _ _ r h => by simp [kimberliteref03_Valid.l0] at h, fun _ _ _ _ _ r h => by simp [kimberliteref03_Valid.j2] at h⟩
 | k + 1 => by
  obtain ⟨ih0, ih1, ih2⟩ := kimberliteref03_Valid.mono_l k
  refine ⟨?_, ?_, ?_⟩
  · intro y0 y1 y2 y3
    unfold kimberliteref03_Valid.j0
    repeat' first
    | (with_reducible exact ih0 _ _ _ _)
    | (with_reducible exact ih1 _ _ _ _)
    | (with_reducible exact ih2 _ _ _ _ _)
    | (with_reducible exact LeO.refl _)
    | (with_reducible exact LeO.none _)
    | (with_reducible refine LeO.ite ?_ ?_)
    | (with_reducible refine LeO.bind ?_ (fun _ => ?_))
    | exact ih0 _ _ _ _
    | exact ih1 _ _ _ _
    | exact ih2 _ _ _ _ _
    | exact LeO.none _
    | refine LeO.ite ?_ ?_
    | refine LeO.bind ?_ (fun _ => ?_)
  · intro y0 y1 y2 y3
    unfold kimberliteref03_Valid.l0
    repeat' first
    | (with_reducible exact ih0 _ _ _ _)
    | (with_reducible exact ih1 _ _ _ _)
    | (with_reducible exact ih2 _ _ _ _ _)
    | (with_reducible exact LeO.refl _)
    | (with_reducible exact LeO.none _)
    | (with_reducible refine LeO.ite ?_ ?_)
    | (with_reducible refine LeO.bind ?_ (fun _ => ?_))
    | exact ih0 _ _ _ _
    | exact ih1 _ _ _ _
    | exact ih2 _ _ _ _ _
    | exact LeO.none _
    | refine LeO.ite ?_ ?_
    | refine LeO.bind ?_ (fun _ => ?_)
  · intro y0 y1 y2 y3 y4
    unfold kimberliteref03_Valid.j2
    repeat' first
    | (with_reducible exact ih0 _ _ _ _)
    | (with_reducible exact ih1 _ _ _ _)
    | (with_reducible exact ih2 _ _ _ _ _)
    | (with_reducible exact LeO.refl _)
    | (with_reducible exact LeO.none _)
    | (with_reducible refine LeO.ite ?_ ?_)
    | (with_reducible refine LeO.bind ?_ (fun _ => ?_))
    | exact ih0 _ _ _ _
    | exact ih1 _ _ _ _
    | exact ih2 _ _ _ _ _
    | exact LeO.none _
    | refine LeO.ite ?_ ?_
    | refine LeO.bind ?_ (fun _ => ?_)
theorem kimberliteref03_Valid.mono : ∀ a0 a1 a2 k, LeO (kimberliteref03_Valid.f k a0 a1 a2) (kimberliteref03_Valid.f (k + 1) a0 a1 a2) := by
 intro a0 a1 a2 k
 obtain ⟨ih0, ih1, ih2⟩ := kimberliteref03_Valid.mono_l k
 unfold kimberliteref03_Valid.f
 repeat' first
  | (with_reducible exact ih0 _ _ _ _)
  | (with_reducible exact ih1 _ _ _ _)
  | (with_reducible exact ih2 _ _ _ _ _)
  | (with_reducible exact LeO.refl _)
  | (with_reducible exact LeO.none _)
  | (with_reducible refine LeO.ite ?_ ?_)
  | (with_reducible refine LeO.bind ?_ (fun _ => ?_))
  | exact ih0 _ _ _ _
  | exact ih1 _ _ _ _
  | exact ih2 _ _ _ _ _
  | exact LeO.none _
  | refine LeO.ite ?_ ?_
  | refine LeO.bind ?_ (fun _ => ?_)
set_option maxHeartbeats 8000000 in
set_option maxRecDepth 100000 in
theorem kimberliteref03_Valid.calls (k : Nat) (a0_0 : Int) (a0_1 : Int) (A0_2 : Option Addr) (c0_2 : Nat) (l0_2 : List Int) (r : Bool) (w : World) (hr0_2 : Kd.C (Kd.int .i64) w A0_2 l0_2.length l0_2) (hc0_2 : l0_2.length ≤ c0_2) (h : kimberliteref03_Valid.f k a0_0 a0_1 l0_2 = some r) :
 Calls Try.prog 30 #[.agg #[.int .i64 a0_0, .int .i64 a0_1, .slice A0_2 l0_2.length c0_2]] w fun e w' => e = .returned (.bool r) ∧ Below w.heap.size w w' := by
 have hu24 := Try.underlying24
 have HR0_2 := Aside0.mk hr0_2
 have HC0_2 := Aside0.mk hc0_2
 clear hr0_2 hc0_2
 have HB := Aside0.mk (Below.refl w.heap.size w)
 have H : (if a0_0 < (-1048576) then (kimberliteref03_Valid.j0 k true a0_0 a0_1 l0_2) else (if a0_0 > 1048576 then (kimberliteref03_Valid.j0 k true a0_0 a0_1 l0_2) else (if a0_1 < (-1099511627776) then (kimberliteref03_Valid.j0 k true a0_0 a0_1 l0_2) else (if a0_1 > 1099511627776 then (kimberliteref03_Valid.j0 k true a0_0 a0_1 l0_2) else (kimberliteref03_Valid.j0 k (decide ((l0_2.length : Int) > 64)) a0_0 a0_1 l0_2))))) = some r := h
 clear h
 have HC2 := Aside0.mk H
 clear H
 go_enter Try.func30, Try.ntmps30
 go_upto_region 1 with (first | ((with_reducible refine gate_dst (N := 1) rfl ?_); (try (refine gate_guard (by rfl) ?_; dsimp only)); refine box_event ?hg (N := 1) ?hd (cs := #[.int .i64 a0_0, .int .i64 a0_1, .slice A0_2 l0_2.length c0_2]) (t := 24) ?hr ?_; (case hd => rfl); (case hg => rfl); (case hr => first | (go_simp; done) | (go_simp; rfl)); intro gb158 hg w3 hbox hb; have n0_ := Aside0.mk (below_step (by repeat (first | (with_reducible first | exact HB.out | apply below_alloc | apply pw_below_drewN | apply below_drew1) | exact HB.out)) hb); have n1_ := Aside0.mk (hbox); have n2_ := Aside0.mk ((by rw [hg]; exact (below_size (by repeat (first | (with_reducible first | exact HB.out | apply below_alloc | apply pw_below_drewN | apply below_drew1) | exact HB.out))) : w.heap.size ≤ gb158)); have n3_ := Aside0.mk ((by rw [hg]; exact (below_size (by repeat (first | (with_reducible first | exact HB.out | apply below_alloc | apply pw_below_drewN | apply below_drew1) | exact HB.out))) : w.heap.size ≤ gb158)); clear HB; have HB := n0_; have BK158 := n1_; have GW158 := n2_; have GE158 := n3_; clear n0_ n1_ n2_ n3_; clear hb hbox hg))
 repeat (go_quiet (fail); go_upto_region 1 with (first | ((with_reducible refine gate_dst (N := 1) rfl ?_); (try (refine gate_guard (by rfl) ?_; dsimp only)); refine box_event ?hg (N := 1) ?hd (cs := #[.int .i64 a0_0, .int .i64 a0_1, .slice A0_2 l0_2.length c0_2]) (t := 24) ?hr ?_; (case hd => rfl); (case hg => rfl); (case hr => first | (go_simp; done) | (go_simp; rfl)); intro gb158 hg w3 hbox hb; have n0_ := Aside0.mk (below_step (by repeat (first | (with_reducible first | exact HB.out | apply below_alloc | apply pw_below_drewN | apply below_drew1) | exact HB.out)) hb); have n1_ := Aside0.mk (hbox); have n2_ := Aside0.mk ((by rw [hg]; exact (below_size (by repeat (first | (with_reducible first | exact HB.out | apply below_alloc | apply pw_below_drewN | apply below_drew1) | exact HB.out))) : w.heap.size ≤ gb158)); have n3_ := Aside0.mk ((by rw [hg]; exact (below_size (by repeat (first | (with_reducible first | exact HB.out | apply below_alloc | apply pw_below_drewN | apply below_drew1) | exact HB.out))) : w.heap.size ≤ gb158)); clear HB; have HB := n0_; have BK158 := n1_; have GW158 := n2_; have GE158 := n3_; clear n0_ n1_ n2_ n3_; clear hb hbox hg)))
 (try simp only [Act.put, List.setIfInBounds_toArray, List.set_cons_zero, List.set_cons_succ])
 go_cut [27] (fun v27 wc => ∃ (kq : Nat) (x27_1 : Bool), v27 = .bool x27_1 ∧ Aside0 (kimberliteref03_Valid.j0 kq x27_1 a0_0 a0_1 l0_2 = some r) ∧ Aside0 (kq ≤ k) ∧ Aside0 (wc.heap[gb158]? = some (.cells #[.int .i64 a0_0, .int .i64 a0_1, (.slice A0_2 l0_2.length c0_2)] 24 (0, 0))) ∧ Aside0 (Below w.heap.size w wc))
 case first =>
  have H := HC2.out
  clear HC2
  by_cases c4 : a0_0 < (-1048576)
  · rw [if_pos c4] at H
    have c4b0 : decide (a0_0 < (-1048576)) = true := decide_eq_true c4
    clear c4
    (first | rw [c4b0] | (simp only [i64_w, i32_w]; rw [c4b0]) | skip)
    have H' := Aside0.mk H
    clear H
    have hcz5_0 : w3.cell? ⟨gb158, 0, none⟩ = some (.int .i64 a0_0) := (blk_cell BK158.out 0).trans rfl
    have hcz5_1 : w3.cell? ⟨gb158, 1, none⟩ = some (.int .i64 a0_1) := (blk_cell BK158.out 1).trans rfl
    have hcz5_2 : w3.cell? ⟨gb158, 2, none⟩ = some (.slice A0_2 l0_2.length c0_2) := (blk_cell BK158.out 2).trans rfl
    have hfz5_0 := blk_frozen BK158.out 0
    have hfz5_1 := blk_frozen BK158.out 1
    have hfz5_2 := blk_frozen BK158.out 2
    go_wp2
    repeat (go_quiet (fail); try go_wp2)
    go_meet
    case rel => exact ⟨_, (true), (by first | rfl | (simp; done) | (simp [*]; done)), H', ⟨by first | omega | exact Nat.le_refl _⟩, ⟨by (with_reducible repeat (first | refine blk_drewN ?_ _ | refine blk_drew ?_ | refine blk_alloc ?_ _)); exact BK158.out⟩, ⟨by repeat (first | (with_reducible first | exact HB.out | apply below_alloc | apply pw_below_drewN | apply below_drew1 | refine below_set ?_ GE158.out) | exact HB.out)⟩⟩
  · rw [if_neg c4] at H
    have c4b0 : decide (a0_0 < (-1048576)) = false := decide_eq_false c4
    clear c4
    (first | rw [c4b0] | (simp only [i64_w, i32_w]; rw [c4b0]) | skip)
    by_cases c6 : a0_0 > 1048576
    · rw [if_pos c6] at H
      have c6b0 : decide (1048576 < a0_0) = true := decide_eq_true c6
      clear c6
      have H' := Aside0.mk H
      clear H
      have hcz7_0 : w3.cell? ⟨gb158, 0, none⟩ = some (.int .i64 a0_0) := (blk_cell BK158.out 0).trans rfl
      have hcz7_1 : w3.cell? ⟨gb158, 1, none⟩ = some (.int .i64 a0_1) := (blk_cell BK158.out 1).trans rfl
      have hcz7_2 : w3.cell? ⟨gb158, 2, none⟩ = some (.slice A0_2 l0_2.length c0_2) := (blk_cell BK158.out 2).trans rfl
      have hfz7_0 := blk_frozen BK158.out 0
      have hfz7_1 := blk_frozen BK158.out 1
      have hfz7_2 := blk_frozen BK158.out 2
      go_wp2
      repeat (go_quiet (fail); try go_wp2)
      go_meet
      case rel => exact ⟨_, (true), (by first | rfl | (simp; done) | (simp [*]; done)), H', ⟨by first | omega | exact Nat.le_refl _⟩, ⟨by (with_reducible repeat (first | refine blk_drewN ?_ _ | refine blk_drew ?_ | refine blk_alloc ?_ _)); exact BK158.out⟩, ⟨by repeat (first | (with_reducible first | exact HB.out | apply below_alloc | apply pw_below_drewN | apply below_drew1 | refine below_set ?_ GE158.out) | exact HB.out)⟩⟩
    · rw [if_neg c6] at H
      have c6b0 : decide (1048576 < a0_0) = false := decide_eq_false c6
      clear c6
      by_cases c8 : a0_1 < (-1099511627776)
      · rw [if_pos c8] at H
        have c8b0 : decide (a0_1 < (-1099511627776)) = true := decide_eq_true c8
        clear c8
        have H' := Aside0.mk H
        clear H
        have hcz9_0 : w3.cell? ⟨gb158, 0, none⟩ = some (.int .i64 a0_0) := (blk_cell BK158.out 0).trans rfl
        have hcz9_1 : w3.cell? ⟨gb158, 1, none⟩ = some (.int .i64 a0_1) := (blk_cell BK158.out 1).trans rfl
        have hcz9_2 : w3.cell? ⟨gb158, 2, none⟩ = some (.slice A0_2 l0_2.length c0_2) := (blk_cell BK158.out 2).trans rfl
        have hfz9_0 := blk_frozen BK158.out 0
        have hfz9_1 := blk_frozen BK158.out 1
        have hfz9_2 := blk_frozen BK158.out 2
        go_wp2
        repeat (go_quiet (fail); try go_wp2)
        go_meet
        case rel => exact ⟨_, (true), (by first | rfl | (simp; done) | (simp [*]; done)), H', ⟨by first | omega | exact Nat.le_refl _⟩, ⟨by (with_reducible repeat (first | refine blk_drewN ?_ _ | refine blk_drew ?_ | refine blk_alloc ?_ _)); exact BK158.out⟩, ⟨by repeat (first | (with_reducible first | exact HB.out | apply below_alloc | apply pw_below_drewN | apply below_drew1 | refine below_set ?_ GE158.out) | exact HB.out)⟩⟩
      · rw [if_neg c8] at H
        have c8b0 : decide (a0_1 < (-1099511627776)) = false := decide_eq_false c8
        clear c8
        by_cases c10 : a0_1 > 1099511627776
        · rw [if_pos c10] at H
          have c10b0 : decide (1099511627776 < a0_1) = true := decide_eq_true c10
          clear c10
          have H' := Aside0.mk H
          clear H
          have hcz11_0 : w3.cell? ⟨gb158, 0, none⟩ = some (.int .i64 a0_0) := (blk_cell BK158.out 0).trans rfl
          have hcz11_1 : w3.cell? ⟨gb158, 1, none⟩ = some (.int .i64 a0_1) := (blk_cell BK158.out 1).trans rfl
          have hcz11_2 : w3.cell? ⟨gb158, 2, none⟩ = some (.slice A0_2 l0_2.length c0_2) := (blk_cell BK158.out 2).trans rfl
          have hfz11_0 := blk_frozen BK158.out 0
          have hfz11_1 := blk_frozen BK158.out 1
          have hfz11_2 := blk_frozen BK158.out 2
          go_wp2
          repeat (go_quiet (fail); try go_wp2)
          go_meet
          case rel => exact ⟨_, (true), (by first | rfl | (simp; done) | (simp [*]; done)), H', ⟨by first | omega | exact Nat.le_refl _⟩, ⟨by (with_reducible repeat (first | refine blk_drewN ?_ _ | refine blk_drew ?_ | refine blk_alloc ?_ _)); exact BK158.out⟩, ⟨by repeat (first | (with_reducible first | exact HB.out | apply below_alloc | apply pw_below_drewN | apply below_drew1 | refine below_set ?_ GE158.out) | exact HB.out)⟩⟩
        · rw [if_neg c10] at H
          have c10b0 : decide (1099511627776 < a0_1) = false := decide_eq_false c10
          clear c10
          have H' := Aside0.mk H
          clear H
          have hcz12_0 : w3.cell? ⟨gb158, 0, none⟩ = some (.int .i64 a0_0) := (blk_cell BK158.out 0).trans rfl
          have hcz12_1 : w3.cell? ⟨gb158, 1, none⟩ = some (.int .i64 a0_1) := (blk_cell BK158.out 1).trans rfl
          have hcz12_2 : w3.cell? ⟨gb158, 2, none⟩ = some (.slice A0_2 l0_2.length c0_2) := (blk_cell BK158.out 2).trans rfl
          have hfz12_0 := blk_frozen BK158.out 0
          have hfz12_1 := blk_frozen BK158.out 1
          have hfz12_2 := blk_frozen BK158.out 2
          go_wp2
          repeat (go_quiet (fail); try go_wp2)
          go_meet
          case rel => exact ⟨_, (decide ((l0_2.length : Int) > 64)), (by first | rfl | (simp; done) | (simp [*]; done)), H', ⟨by first | omega | exact Nat.le_refl _⟩, ⟨by (with_reducible repeat (first | refine blk_drewN ?_ _ | refine blk_drew ?_ | refine blk_alloc ?_ _)); exact BK158.out⟩, ⟨by repeat (first | (with_reducible first | exact HB.out | apply below_alloc | apply pw_below_drewN | apply below_drew1 | refine below_set ?_ GE158.out) | exact HB.out)⟩⟩
 case rest =>
  clear HC2
  try clear c1
  try clear p2
  try clear c3
  try clear c4
  try clear c4b0
  try clear c6
  try clear c6b0
  try clear c8
  try clear c8b0
  try clear c10
  try clear c10b0
  try clear hcz11_0
  try clear hcz11_1
  try clear hcz11_2
  try clear hcz12_0
  try clear hcz12_1
  try clear hcz12_2
  try clear hcz5_0
  try clear hcz5_1
  try clear hcz5_2
  try clear hcz7_0
  try clear hcz7_1
  try clear hcz7_2
  try clear hcz9_0
  try clear hcz9_1
  try clear hcz9_2
  try clear hfz11_0
  try clear hfz11_1
  try clear hfz11_2
  try clear hfz12_0
  try clear hfz12_1
  try clear hfz12_2
  try clear hfz5_0
  try clear hfz5_1
  try clear hfz5_2
  try clear hfz7_0
  try clear hfz7_1
  try clear hfz7_2
  try clear hfz9_0
  try clear hfz9_1
  try clear hfz9_2
  obtain ⟨kq, x27_1, rfl, HA, HJ1, BK158, HB⟩ := hcut
  cases kq with
  | zero => exact absurd HA.out (by simp [kimberliteref03_Valid.j0])
  | succ kj1 =>
   have H := HA.out
   clear HA
   simp only [kimberliteref03_Valid.j0] at H
   by_cases c13 : x27_1 = true
   · subst c13
     have H1 : (some false) = some r := by rw [if_pos rfl] at H; exact H
     clear H
     have H := H1
     clear H1
     obtain rfl := Option.some.inj H
     go_wp2
     repeat (go_quiet (fail); try go_wp2)
     go_ret
     exact ⟨by first | rfl | (simp [errW_none, errW_some] <;> rfl) | (simp [*, errW_none, errW_some] <;> rfl), by repeat (first | (with_reducible first | exact HB.out | apply below_alloc | apply pw_below_drewN | apply below_drew1 | refine below_set ?_ GE158.out) | exact HB.out)⟩
   · replace c13 := Bool.eq_false_iff.mpr c13
     subst c13
     have H1 : (kimberliteref03_Valid.l0 kj1 0 a0_0 a0_1 l0_2) = some r := by rw [if_neg (show ¬ (false = true) by decide)] at H; exact H
     clear H
     have H := H1
     clear H1
     have H' := Aside0.mk H
     clear H
     go_wp2
     repeat (go_quiet (fail); try go_wp2)
     go_loopg [3] kj1 (fun kq v3 w' => ∃ (x3_2 : Int), v3 = .int .i64 x3_2 ∧ Aside0 (kimberliteref03_Valid.l0 kq x3_2 a0_0 a0_1 l0_2 = some r) ∧ Aside0 (kq ≤ kj1) ∧ Aside0 (w'.heap[gb158]? = some (.cells #[.int .i64 a0_0, .int .i64 a0_1, (.slice A0_2 l0_2.length c0_2)] 24 (0, 0))) ∧ Aside0 (Below w.heap.size w w'))
     case atStart => exact ⟨(0), (by first | rfl | (simp; done) | (simp [*]; done)), H', ⟨Nat.le_refl _⟩, ⟨by (with_reducible repeat (first | refine blk_drewN ?_ _ | refine blk_drew ?_ | refine blk_alloc ?_ _)); exact BK158.out⟩, ⟨by repeat (first | (with_reducible first | exact HB.out | apply below_alloc | apply pw_below_drewN | apply below_drew1 | refine below_set ?_ GE158.out) | exact HB.out)⟩⟩
     case round =>
      clear H'
      try clear c1
      try clear p2
      try clear c3
      try clear c4
      try clear c4b0
      try clear c6
      try clear c6b0
      try clear c8
      try clear c8b0
      try clear c10
      try clear c10b0
      try clear c13
      try clear hcz11_0
      try clear hcz11_1
      try clear hcz11_2
      try clear hcz12_0
      try clear hcz12_1
      try clear hcz12_2
      try clear hcz5_0
      try clear hcz5_1
      try clear hcz5_2
      try clear hcz7_0
      try clear hcz7_1
      try clear hcz7_2
      try clear hcz9_0
      try clear hcz9_1
      try clear hcz9_2
      try clear hfz11_0
      try clear hfz11_1
      try clear hfz11_2
      try clear hfz12_0
      try clear hfz12_1
      try clear hfz12_2
      try clear hfz5_0
      try clear hfz5_1
      try clear hfz5_2
      try clear hfz7_0
      try clear hfz7_1
      try clear hfz7_2
      try clear hfz9_0
      try clear hfz9_1
      try clear hfz9_2
      try clear p2
      obtain ⟨x3_2, rfl, HA, HK2, BK158, HB⟩ := hrel
      cases gk with
      | zero => exact absurd HA.out (by simp [kimberliteref03_Valid.l0])
      | succ k2 =>
       have H := HA.out
       clear HA
       simp only [kimberliteref03_Valid.l0] at H
       by_cases c14 : x3_2 < (l0_2.length : Int)
       · rw [if_pos c14] at H
         have c14b0 : decide (x3_2 < (l0_2.length : Int)) = true := decide_eq_true c14
         clear c14
         have HC15 := Aside0.mk H
         clear H
         have hcz16_0 : wr.cell? ⟨gb158, 0, none⟩ = some (.int .i64 a0_0) := (blk_cell BK158.out 0).trans rfl
         have hcz16_1 : wr.cell? ⟨gb158, 1, none⟩ = some (.int .i64 a0_1) := (blk_cell BK158.out 1).trans rfl
         have hcz16_2 : wr.cell? ⟨gb158, 2, none⟩ = some (.slice A0_2 l0_2.length c0_2) := (blk_cell BK158.out 2).trans rfl
         have hfz16_0 := blk_frozen BK158.out 0
         have hfz16_1 := blk_frozen BK158.out 1
         have hfz16_2 := blk_frozen BK158.out 2
         go_upto_region 6 with (fail)
         repeat (go_quiet (fail); go_upto_region 6 with (fail))
         go_cut [66] (fun v66 wc => ∃ (kq : Nat) (x66_14 : Bool), v66 = .bool x66_14 ∧ Aside0 (kimberliteref03_Valid.j2 kq x3_2 x66_14 a0_0 a0_1 l0_2 = some r) ∧ Aside0 (kq ≤ k2) ∧ Aside0 (wc.heap[gb158]? = some (.cells #[.int .i64 a0_0, .int .i64 a0_1, (.slice A0_2 l0_2.length c0_2)] 24 (0, 0))) ∧ Aside0 (Below w.heap.size w wc))
         case first =>
          have H := HC15.out
          clear HC15
          by_cases c17 : 0 ≤ x3_2
          · rw [if_pos c17] at H
            have c17b0 : decide (0 ≤ x3_2) = true := decide_eq_true c17
            clear c17
            (first | rw [c17b0] | (simp only [i64_w, i32_w]; rw [c17b0]) | skip)
            by_cases c18 : (rd l0_2 x3_2) < (-1048576)
            · rw [if_pos c18] at H
              have c18b0 : decide ((rd l0_2 x3_2) < (-1048576)) = true := decide_eq_true c18
              clear c18
              have H' := Aside0.mk H
              clear H
              have hcz19_0 : wr.cell? ⟨gb158, 0, none⟩ = some (.int .i64 a0_0) := (blk_cell BK158.out 0).trans rfl
              have hcz19_1 : wr.cell? ⟨gb158, 1, none⟩ = some (.int .i64 a0_1) := (blk_cell BK158.out 1).trans rfl
              have hcz19_2 : wr.cell? ⟨gb158, 2, none⟩ = some (.slice A0_2 l0_2.length c0_2) := (blk_cell BK158.out 2).trans rfl
              have hfz19_0 := blk_frozen BK158.out 0
              have hfz19_1 := blk_frozen BK158.out 1
              have hfz19_2 := blk_frozen BK158.out 2
              have p159 : 0 ≤ (x3_2 : Int) := of_decide_eq_true (by first | (with_reducible assumption) | assumption)
              have q159 : x3_2 < (l0_2.length : Int) := of_decide_eq_true (by first | (with_reducible assumption) | assumption)
              obtain ⟨ad159, e159, hx159_0⟩ := Kd.at_int HR0_2.out x3_2 p159 q159
              cases e159
              replace hx159_0 := (HB.out.cell (World.block_lt_of_cell? w _ hx159_0)).trans hx159_0
              replace p159 := eq_true p159
              replace q159 := eq_true q159
              go_wp2
              repeat (go_quiet (fail); try go_wp2)
              go_meet
              case rel => exact ⟨_, (true), (by first | rfl | (simp; done) | (simp [*]; done)), H', ⟨by have := HJ1.out; have := HK2.out; first | omega | exact Nat.le_refl _⟩, ⟨by (with_reducible repeat (first | refine blk_drewN ?_ _ | refine blk_drew ?_ | refine blk_alloc ?_ _)); exact BK158.out⟩, ⟨by repeat (first | (with_reducible first | exact HB.out | apply below_alloc | apply pw_below_drewN | apply below_drew1 | refine below_set ?_ GE158.out) | exact HB.out)⟩⟩
            · rw [if_neg c18] at H
              have c18b0 : decide ((rd l0_2 x3_2) < (-1048576)) = false := decide_eq_false c18
              clear c18
              by_cases c20 : (rd l0_2 x3_2) > 1048576
              · rw [if_pos c20] at H
                have c20b0 : decide (1048576 < (rd l0_2 x3_2)) = true := decide_eq_true c20
                clear c20
                have H' := Aside0.mk H
                clear H
                have hcz21_0 : wr.cell? ⟨gb158, 0, none⟩ = some (.int .i64 a0_0) := (blk_cell BK158.out 0).trans rfl
                have hcz21_1 : wr.cell? ⟨gb158, 1, none⟩ = some (.int .i64 a0_1) := (blk_cell BK158.out 1).trans rfl
                have hcz21_2 : wr.cell? ⟨gb158, 2, none⟩ = some (.slice A0_2 l0_2.length c0_2) := (blk_cell BK158.out 2).trans rfl
                have hfz21_0 := blk_frozen BK158.out 0
                have hfz21_1 := blk_frozen BK158.out 1
                have hfz21_2 := blk_frozen BK158.out 2
                have p159 : 0 ≤ (x3_2 : Int) := of_decide_eq_true (by first | (with_reducible assumption) | assumption)
                have q159 : x3_2 < (l0_2.length : Int) := of_decide_eq_true (by first | (with_reducible assumption) | assumption)
                obtain ⟨ad159, e159, hx159_0⟩ := Kd.at_int HR0_2.out x3_2 p159 q159
                cases e159
                replace hx159_0 := (HB.out.cell (World.block_lt_of_cell? w _ hx159_0)).trans hx159_0
                replace p159 := eq_true p159
                replace q159 := eq_true q159
                have p160 : 0 ≤ (x3_2 : Int) := of_decide_eq_true (by first | (with_reducible assumption) | assumption)
                have q160 : x3_2 < (l0_2.length : Int) := of_decide_eq_true (by first | (with_reducible assumption) | assumption)
                obtain ⟨ad160, e160, hx160_0⟩ := Kd.at_int HR0_2.out x3_2 p160 q160
                obtain rfl : ad159 = ad160 := (by injection e160)
                replace hx160_0 := (HB.out.cell (World.block_lt_of_cell? w _ hx160_0)).trans hx160_0
                replace p160 := eq_true p160
                replace q160 := eq_true q160
                go_wp2
                repeat (go_quiet (fail); try go_wp2)
                go_meet
                case rel => exact ⟨_, (true), (by first | rfl | (simp; done) | (simp [*]; done)), H', ⟨by have := HJ1.out; have := HK2.out; first | omega | exact Nat.le_refl _⟩, ⟨by (with_reducible repeat (first | refine blk_drewN ?_ _ | refine blk_drew ?_ | refine blk_alloc ?_ _)); exact BK158.out⟩, ⟨by repeat (first | (with_reducible first | exact HB.out | apply below_alloc | apply pw_below_drewN | apply below_drew1 | refine below_set ?_ GE158.out) | exact HB.out)⟩⟩
              · rw [if_neg c20] at H
                have c20b0 : decide (1048576 < (rd l0_2 x3_2)) = false := decide_eq_false c20
                clear c20
                by_cases c22 : x3_2 > 0
                · rw [if_pos c22] at H
                  have c22b0 : decide (0 < x3_2) = true := decide_eq_true c22
                  clear c22
                  obtain ⟨ji23, hji23⟩ : ∃ j_ : Int, (wrap64 (x3_2 - 1)) = j_ := ⟨_, rfl⟩
                  replace H : (if 0 ≤ (ji23) then (if (ji23) < (l0_2.length : Int) then (kimberliteref03_Valid.j2 k2 x3_2 (decide ((rd l0_2 (ji23)) > (rd l0_2 x3_2))) a0_0 a0_1 l0_2) else (none)) else (none)) = some r := by first | (rw [hji23] at H; exact H) | (simp only [hji23] at H ⊢; exact H)
                  have hji23w : (IntKind.i64.wrap (x3_2 - 1)) = ji23 := (i64_w _).trans hji23
                  by_cases c24 : 0 ≤ (ji23)
                  · rw [if_pos c24] at H
                    have c24b0 : decide (0 ≤ (ji23)) = true := decide_eq_true c24
                    clear c24
                    by_cases c25 : (ji23) < (l0_2.length : Int)
                    · rw [if_pos c25] at H
                      have c25b0 : decide ((ji23) < (l0_2.length : Int)) = true := decide_eq_true c25
                      clear c25
                      have H' := Aside0.mk H
                      clear H
                      have hcz26_0 : wr.cell? ⟨gb158, 0, none⟩ = some (.int .i64 a0_0) := (blk_cell BK158.out 0).trans rfl
                      have hcz26_1 : wr.cell? ⟨gb158, 1, none⟩ = some (.int .i64 a0_1) := (blk_cell BK158.out 1).trans rfl
                      have hcz26_2 : wr.cell? ⟨gb158, 2, none⟩ = some (.slice A0_2 l0_2.length c0_2) := (blk_cell BK158.out 2).trans rfl
                      have hfz26_0 := blk_frozen BK158.out 0
                      have hfz26_1 := blk_frozen BK158.out 1
                      have hfz26_2 := blk_frozen BK158.out 2
                      have p159 : 0 ≤ (x3_2 : Int) := of_decide_eq_true (by first | (with_reducible assumption) | assumption)
                      have q159 : x3_2 < (l0_2.length : Int) := of_decide_eq_true (by first | (with_reducible assumption) | assumption)
                      obtain ⟨ad159, e159, hx159_0⟩ := Kd.at_int HR0_2.out x3_2 p159 q159
                      cases e159
                      replace hx159_0 := (HB.out.cell (World.block_lt_of_cell? w _ hx159_0)).trans hx159_0
                      replace p159 := eq_true p159
                      replace q159 := eq_true q159
                      have p160 : 0 ≤ (x3_2 : Int) := of_decide_eq_true (by first | (with_reducible assumption) | assumption)
                      have q160 : x3_2 < (l0_2.length : Int) := of_decide_eq_true (by first | (with_reducible assumption) | assumption)
                      obtain ⟨ad160, e160, hx160_0⟩ := Kd.at_int HR0_2.out x3_2 p160 q160
                      obtain rfl : ad159 = ad160 := (by injection e160)
                      replace hx160_0 := (HB.out.cell (World.block_lt_of_cell? w _ hx160_0)).trans hx160_0
                      replace p160 := eq_true p160
                      replace q160 := eq_true q160
                      have p161 : 0 ≤ ((ji23) : Int) := of_decide_eq_true (by first | (with_reducible assumption) | assumption)
                      have q161 : (ji23) < (l0_2.length : Int) := of_decide_eq_true (by first | (with_reducible assumption) | assumption)
                      obtain ⟨ad161, e161, hx161_0⟩ := Kd.at_int HR0_2.out (ji23) p161 q161
                      obtain rfl : ad159 = ad161 := (by injection e161)
                      replace hx161_0 := (HB.out.cell (World.block_lt_of_cell? w _ hx161_0)).trans hx161_0
                      replace p161 := eq_true p161
                      replace q161 := eq_true q161
                      have p162 : 0 ≤ (x3_2 : Int) := of_decide_eq_true (by first | (with_reducible assumption) | assumption)
                      have q162 : x3_2 < (l0_2.length : Int) := of_decide_eq_true (by first | (with_reducible assumption) | assumption)
                      obtain ⟨ad162, e162, hx162_0⟩ := Kd.at_int HR0_2.out x3_2 p162 q162
                      obtain rfl : ad159 = ad162 := (by injection e162)
                      replace hx162_0 := (HB.out.cell (World.block_lt_of_cell? w _ hx162_0)).trans hx162_0
                      replace p162 := eq_true p162
                      replace q162 := eq_true q162
                      go_wp2
                      repeat (go_quiet (fail); try go_wp2)
                      go_meet
                      case rel => exact ⟨_, (decide ((rd l0_2 (ji23)) > (rd l0_2 x3_2))), (by first | rfl | (simp; done) | (simp only [← hji23] <;> (first | rfl | simp)) | (simp [*]; done)), H', ⟨by have := HJ1.out; have := HK2.out; first | omega | exact Nat.le_refl _⟩, ⟨by (with_reducible repeat (first | refine blk_drewN ?_ _ | refine blk_drew ?_ | refine blk_alloc ?_ _)); exact BK158.out⟩, ⟨by repeat (first | (with_reducible first | exact HB.out | apply below_alloc | apply pw_below_drewN | apply below_drew1 | refine below_set ?_ GE158.out) | exact HB.out)⟩⟩
                    · rw [if_neg c25] at H
                      exact absurd H (by simp)
                  · rw [if_neg c24] at H
                    exact absurd H (by simp)
                · rw [if_neg c22] at H
                  have c22b0 : decide (0 < x3_2) = false := decide_eq_false c22
                  clear c22
                  have H' := Aside0.mk H
                  clear H
                  have hcz27_0 : wr.cell? ⟨gb158, 0, none⟩ = some (.int .i64 a0_0) := (blk_cell BK158.out 0).trans rfl
                  have hcz27_1 : wr.cell? ⟨gb158, 1, none⟩ = some (.int .i64 a0_1) := (blk_cell BK158.out 1).trans rfl
                  have hcz27_2 : wr.cell? ⟨gb158, 2, none⟩ = some (.slice A0_2 l0_2.length c0_2) := (blk_cell BK158.out 2).trans rfl
                  have hfz27_0 := blk_frozen BK158.out 0
                  have hfz27_1 := blk_frozen BK158.out 1
                  have hfz27_2 := blk_frozen BK158.out 2
                  have p159 : 0 ≤ (x3_2 : Int) := of_decide_eq_true (by first | (with_reducible assumption) | assumption)
                  have q159 : x3_2 < (l0_2.length : Int) := of_decide_eq_true (by first | (with_reducible assumption) | assumption)
                  obtain ⟨ad159, e159, hx159_0⟩ := Kd.at_int HR0_2.out x3_2 p159 q159
                  cases e159
                  replace hx159_0 := (HB.out.cell (World.block_lt_of_cell? w _ hx159_0)).trans hx159_0
                  replace p159 := eq_true p159
                  replace q159 := eq_true q159
                  have p160 : 0 ≤ (x3_2 : Int) := of_decide_eq_true (by first | (with_reducible assumption) | assumption)
                  have q160 : x3_2 < (l0_2.length : Int) := of_decide_eq_true (by first | (with_reducible assumption) | assumption)
                  obtain ⟨ad160, e160, hx160_0⟩ := Kd.at_int HR0_2.out x3_2 p160 q160
                  obtain rfl : ad159 = ad160 := (by injection e160)
                  replace hx160_0 := (HB.out.cell (World.block_lt_of_cell? w _ hx160_0)).trans hx160_0
                  replace p160 := eq_true p160
                  replace q160 := eq_true q160
                  go_wp2
                  repeat (go_quiet (fail); try go_wp2)
                  go_meet
                  case rel => exact ⟨_, (false), (by first | rfl | (simp; done) | (simp [*]; done)), H', ⟨by have := HJ1.out; have := HK2.out; first | omega | exact Nat.le_refl _⟩, ⟨by (with_reducible repeat (first | refine blk_drewN ?_ _ | refine blk_drew ?_ | refine blk_alloc ?_ _)); exact BK158.out⟩, ⟨by repeat (first | (with_reducible first | exact HB.out | apply below_alloc | apply pw_below_drewN | apply below_drew1 | refine below_set ?_ GE158.out) | exact HB.out)⟩⟩
          · rw [if_neg c17] at H
            exact absurd H (by simp)
         case rest =>
          clear HC15
          try clear c1
          try clear p1
          try clear q1
          try clear hx1
          try clear c2
          try clear p2
          try clear c3
          try clear c4
          try clear c4b0
          try clear c6
          try clear c6b0
          try clear p6
          try clear c8
          try clear c8b0
          try clear c10
          try clear c10b0
          try clear c13
          try clear c14
          try clear c14b0
          try clear p15
          try clear q15
          try clear hx15
          try clear p16
          try clear q16
          try clear hx16
          try clear c17
          try clear c17b0
          try clear c18
          try clear c18b0
          try clear c20
          try clear c20b0
          try clear c22
          try clear c22b0
          try clear c24
          try clear c24b0
          try clear c25
          try clear c25b0
          try clear hcz11_0
          try clear hcz11_1
          try clear hcz11_2
          try clear hcz12_0
          try clear hcz12_1
          try clear hcz12_2
          try clear hcz16_0
          try clear hcz16_1
          try clear hcz16_2
          try clear hcz19_0
          try clear hcz19_1
          try clear hcz19_2
          try clear hcz21_0
          try clear hcz21_1
          try clear hcz21_2
          try clear hcz26_0
          try clear hcz26_1
          try clear hcz26_2
          try clear hcz27_0
          try clear hcz27_1
          try clear hcz27_2
          try clear hcz5_0
          try clear hcz5_1
          try clear hcz5_2
          try clear hcz7_0
          try clear hcz7_1
          try clear hcz7_2
          try clear hcz9_0
          try clear hcz9_1
          try clear hcz9_2
          try clear hfz11_0
          try clear hfz11_1
          try clear hfz11_2
          try clear hfz12_0
          try clear hfz12_1
          try clear hfz12_2
          try clear hfz16_0
          try clear hfz16_1
          try clear hfz16_2
          try clear hfz19_0
          try clear hfz19_1
          try clear hfz19_2
          try clear hfz21_0
          try clear hfz21_1
          try clear hfz21_2
          try clear hfz26_0
          try clear hfz26_1
          try clear hfz26_2
          try clear hfz27_0
          try clear hfz27_1
          try clear hfz27_2
          try clear hfz5_0
          try clear hfz5_1
          try clear hfz5_2
          try clear hfz7_0
          try clear hfz7_1
          try clear hfz7_2
          try clear hfz9_0
          try clear hfz9_1
          try clear hfz9_2
          try clear hx159_0
          try clear hx160_0
          try clear hx161_0
          try clear hx162_0
          try clear p159
          try clear p160
          try clear p161
          try clear p162
          try clear p2
          try clear q159
          try clear q160
          try clear q161
          try clear q162
          obtain ⟨kq, x66_14, rfl, HA, HJ14, BK158, HB⟩ := hcut
          cases kq with
          | zero => exact absurd HA.out (by simp [kimberliteref03_Valid.j2])
          | succ kj14 =>
           have H := HA.out
           clear HA
           simp only [kimberliteref03_Valid.j2] at H
           by_cases c28 : x66_14 = true
           · subst c28
             have H1 : (some false) = some r := by rw [if_pos rfl] at H; exact H
             clear H
             have H := H1
             clear H1
             obtain rfl := Option.some.inj H
             go_wp2
             repeat (go_quiet (fail); try go_wp2)
             go_ret
             exact ⟨by first | rfl | (simp [errW_none, errW_some] <;> rfl) | (simp [*, errW_none, errW_some] <;> rfl), by repeat (first | (with_reducible first | exact HB.out | apply below_alloc | apply pw_below_drewN | apply below_drew1 | refine below_set ?_ GE158.out) | exact HB.out)⟩
           · replace c28 := Bool.eq_false_iff.mpr c28
             subst c28
             have H1 : (kimberliteref03_Valid.l0 kj14 (wrap64 (x3_2 + 1)) a0_0 a0_1 l0_2) = some r := by rw [if_neg (show ¬ (false = true) by decide)] at H; exact H
             clear H
             have H := H1
             clear H1
             have H' := Aside0.mk H
             clear H
             go_wp2
             repeat (go_quiet (fail); try go_wp2)
             go_roundg kj14
             case measure => have := HJ1.out; have := HK2.out; have := HJ14.out; omega
             case rel => exact ⟨(wrap64 (x3_2 + 1)), (by first | rfl | (simp; done) | (simp [*]; done)), H', ⟨by have := HJ1.out; have := HK2.out; have := HJ14.out; omega⟩, ⟨by (with_reducible repeat (first | refine blk_drewN ?_ _ | refine blk_drew ?_ | refine blk_alloc ?_ _)); exact BK158.out⟩, ⟨by repeat (first | (with_reducible first | exact HB.out | apply below_alloc | apply pw_below_drewN | apply below_drew1 | refine below_set ?_ GE158.out) | exact HB.out)⟩⟩
       · rw [if_neg c14] at H
         have c14b0 : decide (x3_2 < (l0_2.length : Int)) = false := decide_eq_false c14
         clear c14
         obtain rfl := Option.some.inj H
         have hcz29_0 : wr.cell? ⟨gb158, 0, none⟩ = some (.int .i64 a0_0) := (blk_cell BK158.out 0).trans rfl
         have hcz29_1 : wr.cell? ⟨gb158, 1, none⟩ = some (.int .i64 a0_1) := (blk_cell BK158.out 1).trans rfl
         have hcz29_2 : wr.cell? ⟨gb158, 2, none⟩ = some (.slice A0_2 l0_2.length c0_2) := (blk_cell BK158.out 2).trans rfl
         have hfz29_0 := blk_frozen BK158.out 0
         have hfz29_1 := blk_frozen BK158.out 1
         have hfz29_2 := blk_frozen BK158.out 2
         go_wp2
         repeat (go_quiet (fail); try go_wp2)
         go_ret
         exact ⟨by first | rfl | (simp [errW_none, errW_some] <;> rfl) | (simp [*, errW_none, errW_some] <;> rfl), by repeat (first | (with_reducible first | exact HB.out | apply below_alloc | apply pw_below_drewN | apply below_drew1 | refine below_set ?_ GE158.out) | exact HB.out)⟩
end Go.Proofs.Ytingjpcgehgiiaa.Pr
end
section
namespace Go.Proofs.Ytingjpcgehgiiaa.Pr
open Go.RowKit Go.Proofs.YtingjpcgehgiiaaW.PrintWords Go.Proofs.YtingjpcgehgiiaaW.PrintLast Go.Proofs.YtingjpcgehgiiaaW.PrintMore
attribute [local go_sem] max2_int min2_int max_two min_two max_three min_three max_four min_four   -- for this text's walks alone
set_option linter.unusedVariables false
set_option linter.unusedSimpArgs false
def kimberliteref03_Row_has.f (a0_0 : Int) (l0_1 : List Int) (a1 : Int) : Option (Bool) := if a1 ≥ a0_0 then ((kimberliteref03_Row_To.f a0_0 l0_1).bind fun t164 => (some (decide (a1 ≤ t164)))) else (some false)
set_option maxHeartbeats 8000000 in
set_option maxRecDepth 100000 in
theorem kimberliteref03_Row_has.calls (a0_0 : Int) (A0_1 : Option Addr) (c0_1 : Nat) (l0_1 : List Int) (a1 : Int) (r : Bool) (w : World) (hr0_1 : Kd.C (Kd.int .i64) w A0_1 l0_1.length l0_1) (hc0_1 : l0_1.length ≤ c0_1) (h : kimberliteref03_Row_has.f a0_0 l0_1 a1 = some r) :
 Calls Try.prog 67 #[.agg #[.int .i64 a0_0, .slice A0_1 l0_1.length c0_1], .int .i64 a1] w fun e w' => e = .returned (.bool r) ∧ Below w.heap.size w w' := by
 have hu78 := Try.underlying78
 have HR0_1 := Aside0.mk hr0_1
 have HC0_1 := Aside0.mk hc0_1
 clear hr0_1 hc0_1
 have HB := Aside0.mk (Below.refl w.heap.size w)
 have H : (if a1 ≥ a0_0 then ((kimberliteref03_Row_To.f a0_0 l0_1).bind fun t164 => (some (decide (a1 ≤ t164)))) else (some false)) = some r := h
 clear h
 by_cases c3 : a1 ≥ a0_0
 · rw [if_pos c3] at H
   have c3b0 : decide (a0_0 ≤ a1) = true := decide_eq_true c3
   clear c3
   replace H := Option.bind_eq_some_iff.mp H
   obtain ⟨t164, A40, H⟩ := H
   replace H : (some (decide (a1 ≤ t164))) = some r := H
   have A4 := Aside0.mk A40
   clear A40
   obtain rfl := Option.some.inj H
   go_enter Try.func67, Try.ntmps67
   go_wp2_with (first | ((with_reducible refine gate_dst (N := 2) rfl ?_); refine box_event ?hg (N := 2) ?hd (cs := #[.int .i64 a0_0, .slice A0_1 l0_1.length c0_1]) (t := 78) ?hr ?_; (case hd => rfl); (case hg => rfl); (case hr => first | (go_simp; done) | (go_simp; rfl)); intro gb163 hg w5 hbox hb; have n0_ := Aside0.mk (below_step (by repeat (first | (with_reducible first | exact HB.out | apply below_alloc | apply pw_below_drewN | apply below_drew1) | exact HB.out)) hb); have n1_ := Aside0.mk (hbox); have n2_ := Aside0.mk ((by rw [hg]; exact (below_size (by repeat (first | (with_reducible first | exact HB.out | apply below_alloc | apply pw_below_drewN | apply below_drew1) | exact HB.out))) : w.heap.size ≤ gb163)); have n3_ := Aside0.mk ((by rw [hg]; exact (below_size (by repeat (first | (with_reducible first | exact HB.out | apply below_alloc | apply pw_below_drewN | apply below_drew1) | exact HB.out))) : w.heap.size ≤ gb163)); clear HB; have HB := n0_; have BK163 := n1_; have GW163 := n2_; have GE163 := n3_; clear n0_ n1_ n2_ n3_; clear hb hbox hg; have hcz6_0 : w5.cell? ⟨gb163, 0, none⟩ = some (.int .i64 a0_0) := (blk_cell BK163.out 0).trans rfl; have hcz6_1 : w5.cell? ⟨gb163, 1, none⟩ = some (.slice A0_1 l0_1.length c0_1) := (blk_cell BK163.out 1).trans rfl; have hfz6_0 := blk_frozen BK163.out 0; have hfz6_1 := blk_frozen BK163.out 1) | (go_at_call 65; (with_reducible refine (kimberliteref03_Row_To.calls a0_0 _ _ l0_1 t164 _ ?side1 ?side2 A4.out).mono ?_); (case side1 => repeat (first | exact (Kd.C_below HR0_1.out HB.out) | (with_reducible refine Kd.C_alloc ?_ _) | (with_reducible refine Kd.C_drewN ?_ _) | (with_reducible refine Kd.C_drew ?_))); (case side2 => exact HC0_1.out); rintro e w7 ⟨rfl, hb⟩; have n0_ := Aside0.mk (blk_below (g := gb163) (o := .cells #[.int .i64 a0_0, .slice A0_1 l0_1.length c0_1] 78 (0, 0)) (by (with_reducible repeat (first | refine blk_drewN ?_ _ | refine blk_drew ?_ | refine blk_alloc ?_ _)); exact BK163.out) hb); have n1_ := Aside0.mk (below_step (by repeat (first | (with_reducible first | exact HB.out | apply below_alloc | apply pw_below_drewN | apply below_drew1 | refine below_set ?_ GE163.out) | exact HB.out)) hb); clear BK163; clear HB; have BK163 := n0_; have HB := n1_; clear n0_ n1_; (try clear hb); (try clear hb2); (try clear hk); (try clear hi)))
   go_ret
   exact ⟨by first | rfl | (simp [errW_none, errW_some] <;> rfl) | (simp [*, errW_none, errW_some] <;> rfl), by repeat (first | (with_reducible first | exact HB.out | apply below_alloc | apply pw_below_drewN | apply below_drew1 | refine below_set ?_ GE163.out) | exact HB.out)⟩
 · rw [if_neg c3] at H
   have c3b0 : decide (a0_0 ≤ a1) = false := decide_eq_false c3
   clear c3
   obtain rfl := Option.some.inj H
   go_enter Try.func67, Try.ntmps67
   go_wp2_with (first | ((with_reducible refine gate_dst (N := 2) rfl ?_); refine box_event ?hg (N := 2) ?hd (cs := #[.int .i64 a0_0, .slice A0_1 l0_1.length c0_1]) (t := 78) ?hr ?_; (case hd => rfl); (case hg => rfl); (case hr => first | (go_simp; done) | (go_simp; rfl)); intro gb163 hg w8 hbox hb; have n0_ := Aside0.mk (below_step (by repeat (first | (with_reducible first | exact HB.out | apply below_alloc | apply pw_below_drewN | apply below_drew1) | exact HB.out)) hb); have n1_ := Aside0.mk (hbox); have n2_ := Aside0.mk ((by rw [hg]; exact (below_size (by repeat (first | (with_reducible first | exact HB.out | apply below_alloc | apply pw_below_drewN | apply below_drew1) | exact HB.out))) : w.heap.size ≤ gb163)); have n3_ := Aside0.mk ((by rw [hg]; exact (below_size (by repeat (first | (with_reducible first | exact HB.out | apply below_alloc | apply pw_below_drewN | apply below_drew1) | exact HB.out))) : w.heap.size ≤ gb163)); clear HB; have HB := n0_; have BK163 := n1_; have GW163 := n2_; have GE163 := n3_; clear n0_ n1_ n2_ n3_; clear hb hbox hg; have hcz9_0 : w8.cell? ⟨gb163, 0, none⟩ = some (.int .i64 a0_0) := (blk_cell BK163.out 0).trans rfl; have hcz9_1 : w8.cell? ⟨gb163, 1, none⟩ = some (.slice A0_1 l0_1.length c0_1) := (blk_cell BK163.out 1).trans rfl; have hfz9_0 := blk_frozen BK163.out 0; have hfz9_1 := blk_frozen BK163.out 1))
   go_ret
   exact ⟨by first | rfl | (simp [errW_none, errW_some] <;> rfl) | (simp [*, errW_none, errW_some] <;> rfl), by repeat (first | (with_reducible first | exact HB.out | apply below_alloc | apply pw_below_drewN | apply below_drew1 | refine below_set ?_ GE163.out) | exact HB.out)⟩
def kimberliteref03_At.f (k : Nat) (a0_0 : Int) (a0_1 : Int) (l0_2 : List Int) (a1 : Int) : Option (Int × Int) := (kimberliteref03_Valid.f k a0_0 a0_1 l0_2).bind fun t166 => (if t166 = true then ((kimberliteref03_Out.f k a0_0 a0_1 l0_2).bind fun bt167 => ((kimberliteref03_Row_has.f bt167.1 bt167.2 a1).bind fun t172 => (if t172 = true then ((kimberliteref03_Row_Value.f bt167.1 bt167.2 a1).bind fun t173 => (some (t173, 0))) else (some (0, 6))))) else (some (0, 2)))
theorem kimberliteref03_At.mono : ∀ a0 a1 a2 a3 k, LeO (kimberliteref03_At.f k a0 a1 a2 a3) (kimberliteref03_At.f (k + 1) a0 a1 a2 a3) := by
 intro a0 a1 a2 a3 k
 unfold kimberliteref03_At.f
 repeat' first
  | (with_reducible exact kimberliteref03_Out.mono _ _ _ _)
  | (with_reducible exact kimberliteref03_Valid.mono _ _ _ _)
  | (with_reducible exact LeO.refl _)
  | (with_reducible exact LeO.none _)
  | (with_reducible refine LeO.ite ?_ ?_)
  | (with_reducible refine LeO.bind ?_ (fun _ => ?_))
  | exact kimberliteref03_Out.mono _ _ _ _
  | exact kimberliteref03_Valid.mono _ _ _ _
  | exact LeO.none _
  | refine LeO.ite ?_ ?_
  | refine LeO.bind ?_ (fun _ => ?_)
set_option maxHeartbeats 8000000 in
set_option maxRecDepth 100000 in
theorem kimberliteref03_At.calls (k : Nat) (a0_0 : Int) (a0_1 : Int) (A0_2 : Option Addr) (c0_2 : Nat) (l0_2 : List Int) (a1 : Int) (r1 : Int) (r2 : Int) (w : World) (hr0_2 : Kd.C (Kd.int .i64) w A0_2 l0_2.length l0_2) (hc0_2 : l0_2.length ≤ c0_2) (h : kimberliteref03_At.f k a0_0 a0_1 l0_2 a1 = some (r1, r2)) :
 Calls Try.prog 29 #[.agg #[.int .i64 a0_0, .int .i64 a0_1, .slice A0_2 l0_2.length c0_2], .int .i64 a1] w fun e w' => e = .returned (.tuple #[.int .i64 r1, .int .i64 r2]) ∧ Below w.heap.size w w' := by
 have hu24 := Try.underlying24
 have hu78 := Try.underlying78
 have HR0_2 := Aside0.mk hr0_2
 have HC0_2 := Aside0.mk hc0_2
 clear hr0_2 hc0_2
 have HB := Aside0.mk (Below.refl w.heap.size w)
 have H : ((kimberliteref03_Valid.f k a0_0 a0_1 l0_2).bind fun t166 => (if t166 = true then ((kimberliteref03_Out.f k a0_0 a0_1 l0_2).bind fun bt167 => ((kimberliteref03_Row_has.f bt167.1 bt167.2 a1).bind fun t172 => (if t172 = true then ((kimberliteref03_Row_Value.f bt167.1 bt167.2 a1).bind fun t173 => (some (t173, 0))) else (some (0, 6))))) else (some (0, 2)))) = some (r1, r2) := h
 clear h
 replace H := Option.bind_eq_some_iff.mp H
 obtain ⟨t166, A30, H⟩ := H
 replace H : (if t166 = true then ((kimberliteref03_Out.f k a0_0 a0_1 l0_2).bind fun bt167 => ((kimberliteref03_Row_has.f bt167.1 bt167.2 a1).bind fun t172 => (if t172 = true then ((kimberliteref03_Row_Value.f bt167.1 bt167.2 a1).bind fun t173 => (some (t173, 0))) else (some (0, 6))))) else (some (0, 2))) = some (r1, r2) := H
 have A3 := Aside0.mk A30
 clear A30
 by_cases c4 : t166 = true
 · subst c4
   have H1 : ((kimberliteref03_Out.f k a0_0 a0_1 l0_2).bind fun bt167 => ((kimberliteref03_Row_has.f bt167.1 bt167.2 a1).bind fun t172 => (if t172 = true then ((kimberliteref03_Row_Value.f bt167.1 bt167.2 a1).bind fun t173 => (some (t173, 0))) else (some (0, 6))))) = some (r1, r2) := by rw [if_pos rfl] at H; exact H
   clear H
   have H := H1
   clear H1
   replace H := Option.bind_eq_some_iff.mp H
   obtain ⟨⟨t167, t168⟩, A50, H⟩ := H
   replace H : ((kimberliteref03_Row_has.f t167 t168 a1).bind fun t172 => (if t172 = true then ((kimberliteref03_Row_Value.f t167 t168 a1).bind fun t173 => (some (t173, 0))) else (some (0, 6)))) = some (r1, r2) := H
   have A5 := Aside0.mk A50
   clear A50
   replace H := Option.bind_eq_some_iff.mp H
   obtain ⟨t172, A60, H⟩ := H
   replace H : (if t172 = true then ((kimberliteref03_Row_Value.f t167 t168 a1).bind fun t173 => (some (t173, 0))) else (some (0, 6))) = some (r1, r2) := H
   have A6 := Aside0.mk A60
   clear A60
   by_cases c7 : t172 = true
   · subst c7
     have H1 : ((kimberliteref03_Row_Value.f t167 t168 a1).bind fun t173 => (some (t173, 0))) = some (r1, r2) := by rw [if_pos rfl] at H; exact H
     clear H
     have H := H1
     clear H1
     replace H := Option.bind_eq_some_iff.mp H
     obtain ⟨t173, A80, H⟩ := H
     replace H : (some (t173, 0)) = some (r1, r2) := H
     have A8 := Aside0.mk A80
     clear A80
     simp only [Option.some.injEq, Prod.mk.injEq] at H
     obtain ⟨rfl, rfl⟩ := H
     go_enter Try.func29, Try.ntmps29
     go_wp2_with (first | ((with_reducible refine gate_dst (N := 2) rfl ?_); refine box_event ?hg (N := 2) ?hd (cs := #[.int .i64 a0_0, .int .i64 a0_1, .slice A0_2 l0_2.length c0_2]) (t := 24) ?hr ?_; (case hd => rfl); (case hg => rfl); (case hr => first | (go_simp; done) | (go_simp; rfl)); intro gb165 hg w9 hbox hb; have n0_ := Aside0.mk (below_step (by repeat (first | (with_reducible first | exact HB.out | apply below_alloc | apply pw_below_drewN | apply below_drew1) | exact HB.out)) hb); have n1_ := Aside0.mk (hbox); have n2_ := Aside0.mk ((by rw [hg]; exact (below_size (by repeat (first | (with_reducible first | exact HB.out | apply below_alloc | apply pw_below_drewN | apply below_drew1) | exact HB.out))) : w.heap.size ≤ gb165)); have n3_ := Aside0.mk ((by rw [hg]; exact (below_size (by repeat (first | (with_reducible first | exact HB.out | apply below_alloc | apply pw_below_drewN | apply below_drew1) | exact HB.out))) : w.heap.size ≤ gb165)); clear HB; have HB := n0_; have BK165 := n1_; have GW165 := n2_; have GE165 := n3_; clear n0_ n1_ n2_ n3_; clear hb hbox hg; have hcz10_0 : w9.cell? ⟨gb165, 0, none⟩ = some (.int .i64 a0_0) := (blk_cell BK165.out 0).trans rfl; have hcz10_1 : w9.cell? ⟨gb165, 1, none⟩ = some (.int .i64 a0_1) := (blk_cell BK165.out 1).trans rfl; have hcz10_2 : w9.cell? ⟨gb165, 2, none⟩ = some (.slice A0_2 l0_2.length c0_2) := (blk_cell BK165.out 2).trans rfl; have hfz10_0 := blk_frozen BK165.out 0; have hfz10_1 := blk_frozen BK165.out 1; have hfz10_2 := blk_frozen BK165.out 2) | ((with_reducible refine gate_callee (f := 30) rfl ?_); refine goesL_ (some 8) rfl rfl Try.func30 (by kernel_rfl) rfl #[.agg #[.int .i64 a0_0, .int .i64 a0_1, .slice A0_2 l0_2.length c0_2]] rfl (by (try simp only [List.map_toArray, List.map_cons, List.map_nil]); first | done | rfl | (simp only [List.length_drop, List.length_take]; rfl)) ?_; (with_reducible refine (kimberliteref03_Valid.calls k a0_0 a0_1 _ _ l0_2 true _ ?side1 ?side2 A3.out).mono ?_); (case side1 => repeat (first | exact (Kd.C_below HR0_2.out HB.out) | (with_reducible refine Kd.C_alloc ?_ _) | (with_reducible refine Kd.C_drewN ?_ _) | (with_reducible refine Kd.C_drew ?_))); (case side2 => exact HC0_2.out); rintro e w11 ⟨rfl, hb⟩; refine ⟨_, rfl, ?_⟩; have n0_ := Aside0.mk (blk_below (g := gb165) (o := .cells #[.int .i64 a0_0, .int .i64 a0_1, .slice A0_2 l0_2.length c0_2] 24 (0, 0)) (by (with_reducible repeat (first | refine blk_drewN ?_ _ | refine blk_drew ?_ | refine blk_alloc ?_ _)); exact BK165.out) hb); have n1_ := Aside0.mk (below_step (by repeat (first | (with_reducible first | exact HB.out | apply below_alloc | apply pw_below_drewN | apply below_drew1 | refine below_set ?_ GE165.out) | exact HB.out)) hb); clear BK165; clear HB; have BK165 := n0_; have HB := n1_; clear n0_ n1_; (try clear hb); (try clear hb2); (try clear hk); (try clear hi); have hcz12_0 : w11.cell? ⟨gb165, 0, none⟩ = some (.int .i64 a0_0) := (blk_cell BK165.out 0).trans rfl; have hcz12_1 : w11.cell? ⟨gb165, 1, none⟩ = some (.int .i64 a0_1) := (blk_cell BK165.out 1).trans rfl; have hcz12_2 : w11.cell? ⟨gb165, 2, none⟩ = some (.slice A0_2 l0_2.length c0_2) := (blk_cell BK165.out 2).trans rfl; have hfz12_0 := blk_frozen BK165.out 0; have hfz12_1 := blk_frozen BK165.out 1; have hfz12_2 := blk_frozen BK165.out 2) | ((with_reducible refine gate_callee (f := 64) rfl ?_); refine goesL_ (some 11) rfl rfl Try.func64 (by kernel_rfl) rfl #[.agg #[.int .i64 a0_0, .int .i64 a0_1, .slice A0_2 l0_2.length c0_2]] rfl (by (try simp only [List.map_toArray, List.map_cons, List.map_nil]); first | done | rfl | (simp only [List.length_drop, List.length_take]; rfl)) ?_; (with_reducible refine (kimberliteref03_Out.calls k a0_0 a0_1 _ _ l0_2 t167 t168 _ ?side1 ?side2 A5.out).mono ?_); (case side1 => repeat (first | exact (Kd.C_below HR0_2.out HB.out) | (with_reducible refine Kd.C_alloc ?_ _) | (with_reducible refine Kd.C_drewN ?_ _) | (with_reducible refine Kd.C_drew ?_))); (case side2 => exact HC0_2.out); rintro e w13 ⟨v169, rfl, ho0, hb⟩; refine ⟨_, rfl, ?_⟩; have n0_ := Aside0.mk (Kd.R_lower ho0 (below_size (by repeat (first | (with_reducible first | exact HB.out | apply below_alloc | apply pw_below_drewN | apply below_drew1 | refine below_set ?_ GE165.out) | exact HB.out)))); have n1_ := Aside0.mk (blk_below (g := gb165) (o := .cells #[.int .i64 a0_0, .int .i64 a0_1, .slice A0_2 l0_2.length c0_2] 24 (0, 0)) (by (with_reducible repeat (first | refine blk_drewN ?_ _ | refine blk_drew ?_ | refine blk_alloc ?_ _)); exact BK165.out) hb); have n2_ := Aside0.mk (below_step (by repeat (first | (with_reducible first | exact HB.out | apply below_alloc | apply pw_below_drewN | apply below_drew1 | refine below_set ?_ GE165.out) | exact HB.out)) hb); clear BK165; clear HB; have HO170 := n0_; have BK165 := n1_; have HB := n2_; clear n0_ n1_ n2_; (try clear hb); (try clear hb2); (try clear hk); (try clear hi); (try clear ho0)) | ((with_reducible refine gate_dst (N := 6) rfl ?_); refine box_event ?hg (N := 6) ?hd (cs := #[.int .i64 0, .slice none 0 0]) (t := 78) ?hr ?_; (case hd => rfl); (case hg => rfl); (case hr => first | (go_simp; done) | (go_simp; rfl)); intro gb171 hg w14 hbox hb; have n0_ := Aside0.mk (Kd.R_below (by (with_reducible repeat (first | apply Kd.R_alloc | apply Kd.R_drewN | apply Kd.R_drew)); exact HO170.out) hb); have n1_ := Aside0.mk (blk_below (g := gb165) (o := .cells #[.int .i64 a0_0, .int .i64 a0_1, .slice A0_2 l0_2.length c0_2] 24 (0, 0)) (by (with_reducible repeat (first | refine blk_drewN ?_ _ | refine blk_drew ?_ | refine blk_alloc ?_ _)); exact BK165.out) hb); have n2_ := Aside0.mk (below_step (by repeat (first | (with_reducible first | exact HB.out | apply below_alloc | apply pw_below_drewN | apply below_drew1 | refine below_set ?_ GE165.out) | exact HB.out)) hb); have n3_ := Aside0.mk (hbox); have n4_ := Aside0.mk ((by rw [hg]; exact (below_size (by repeat (first | (with_reducible first | exact HB.out | apply below_alloc | apply pw_below_drewN | apply below_drew1 | refine below_set ?_ GE165.out) | exact HB.out))) : w.heap.size ≤ gb171)); have n5_ := Aside0.mk ((by rw [hg]; exact (below_size (by repeat (first | (with_reducible first | exact HB.out | apply below_alloc | apply pw_below_drewN | apply below_drew1 | refine below_set ?_ GE165.out) | exact HB.out))) : w.heap.size ≤ gb171)); have n6_ := Aside0.mk ((by rw [hg]; exact Nat.ne_of_lt (blk_lt (g := gb165) (o := .cells #[.int .i64 a0_0, .int .i64 a0_1, .slice A0_2 l0_2.length c0_2] 24 (0, 0)) (by (with_reducible repeat (first | refine blk_drewN ?_ _ | refine blk_drew ?_ | refine blk_alloc ?_ _)); exact BK165.out)) : gb165 ≠ gb171)); have n7_ := Aside0.mk ((by rw [hg]; exact Nat.ne_of_gt (blk_lt (g := gb165) (o := .cells #[.int .i64 a0_0, .int .i64 a0_1, .slice A0_2 l0_2.length c0_2] 24 (0, 0)) (by (with_reducible repeat (first | refine blk_drewN ?_ _ | refine blk_drew ?_ | refine blk_alloc ?_ _)); exact BK165.out)) : gb171 ≠ gb165)); clear HO170; clear BK165; clear HB; have HO170 := n0_; have BK165 := n1_; have HB := n2_; have BK171 := n3_; have GW171 := n4_; have GE171 := n5_; have NB165_171 := n6_; have NB171_165 := n7_; clear n0_ n1_ n2_ n3_ n4_ n5_ n6_ n7_; clear hb hbox hg; have hnb15 := NB171_165.out; have hnc15 := NB165_171.out; have hcz16_0 : w14.cell? ⟨gb171, 0, none⟩ = some (.int .i64 0) := (blk_cell BK171.out 0).trans rfl; have hcz16_1 : w14.cell? ⟨gb171, 1, none⟩ = some (.slice none 0 0) := (blk_cell BK171.out 1).trans rfl; have hfz16_0 := blk_frozen BK171.out 0; have hfz16_1 := blk_frozen BK171.out 1; obtain ⟨Ao17, co17, eo17⟩ := Kd.R_slice HO170.out; subst eo17) | ((with_reducible refine gate_callee (f := 67) rfl ?_); refine goesL_ (some 14) rfl rfl Try.func67 (by kernel_rfl) rfl #[.agg #[.int .i64 t167, .slice Ao17 t168.length co17], .int .i64 a1] rfl (by (try simp only [List.map_toArray, List.map_cons, List.map_nil]); first | done | rfl | (simp only [List.length_drop, List.length_take]; rfl)) ?_; (with_reducible refine (kimberliteref03_Row_has.calls t167 _ _ t168 a1 true _ ?side1 ?side2 A6.out).mono ?_); (case side1 => refine (Kd.R_reads' (e := 3) (base := w.heap.size) (ok := fun k_ => True) (n := t168.length) (c := co17) ?_).2.2; exact (by (with_reducible repeat (first | apply Kd.R_alloc | apply Kd.R_drewN | apply Kd.R_drew)); exact (Kd.R_mono (Kd.R_far (p := ⟨gb171, 1, none⟩) (Kd.R_far (p := ⟨gb171, 0, none⟩) (Kd.R_types HO170.out BK171.out (by decide)) (fun _ hk => hk.2) (.int .i64 t167)) (fun _ hk => hk.2) (.slice Ao17 t168.length co17)) (fun _ h_ => h_.1)))); (case side2 => exact (Kd.R_reads' HO170.out).2.1); rintro e w18 ⟨rfl, hb⟩; refine ⟨_, rfl, ?_⟩; have n0_ := Aside0.mk (Kd.R_below (by (with_reducible repeat (first | apply Kd.R_alloc | apply Kd.R_drewN | apply Kd.R_drew)); exact (Kd.R_mono (Kd.R_far (p := ⟨gb171, 1, none⟩) (Kd.R_far (p := ⟨gb171, 0, none⟩) (Kd.R_types HO170.out BK171.out (by decide)) (fun _ hk => hk.2) (.int .i64 t167)) (fun _ hk => hk.2) (.slice Ao17 t168.length co17)) (fun _ h_ => h_.1))) hb); have n1_ := Aside0.mk (blk_below (g := gb165) (o := .cells #[.int .i64 a0_0, .int .i64 a0_1, .slice A0_2 l0_2.length c0_2] 24 (0, 0)) (by (with_reducible repeat (first | refine blk_drewN ?_ _ | refine blk_drew ?_ | refine blk_alloc ?_ _)); refine blk_far ?_ NB165_171.out _; (with_reducible repeat (first | refine blk_drewN ?_ _ | refine blk_drew ?_ | refine blk_alloc ?_ _)); refine blk_far ?_ NB165_171.out _; (with_reducible repeat (first | refine blk_drewN ?_ _ | refine blk_drew ?_ | refine blk_alloc ?_ _)); exact BK165.out) hb); have n2_ := Aside0.mk (blk_below (g := gb171) (o := .cells #[.int .i64 t167, .slice Ao17 t168.length co17] 78 (0, 0)) (by (with_reducible repeat (first | refine blk_drewN ?_ _ | refine blk_drew ?_ | refine blk_alloc ?_ _)); refine blk_put (cs := #[.int .i64 t167, .slice none 0 0]) ?_ 1 _ rfl; (with_reducible repeat (first | refine blk_drewN ?_ _ | refine blk_drew ?_ | refine blk_alloc ?_ _)); refine blk_put (cs := #[.int .i64 0, .slice none 0 0]) ?_ 0 _ rfl; (with_reducible repeat (first | refine blk_drewN ?_ _ | refine blk_drew ?_ | refine blk_alloc ?_ _)); exact BK171.out) hb); have n3_ := Aside0.mk (below_step (by repeat (first | (with_reducible first | exact HB.out | apply below_alloc | apply pw_below_drewN | apply below_drew1 | refine below_set ?_ GE165.out | refine below_set ?_ GE171.out) | exact HB.out)) hb); clear HO170; clear BK165; clear BK171; clear HB; have HO170 := n0_; have BK165 := n1_; have BK171 := n2_; have HB := n3_; clear n0_ n1_ n2_ n3_; (try clear hb); (try clear hb2); (try clear hk); (try clear hi); have hcz19_0 : w18.cell? ⟨gb171, 0, none⟩ = some (.int .i64 t167) := (blk_cell BK171.out 0).trans rfl; have hcz19_1 : w18.cell? ⟨gb171, 1, none⟩ = some (.slice Ao17 t168.length co17) := (blk_cell BK171.out 1).trans rfl; have hfz19_0 := blk_frozen BK171.out 0; have hfz19_1 := blk_frozen BK171.out 1) | ((with_reducible refine gate_callee (f := 68) rfl ?_); refine goesL_ (some 18) rfl rfl Try.func68 (by kernel_rfl) rfl #[.agg #[.int .i64 t167, .slice Ao17 t168.length co17], .int .i64 a1] rfl (by (try simp only [List.map_toArray, List.map_cons, List.map_nil]); first | done | rfl | (simp only [List.length_drop, List.length_take]; rfl)) ?_; (with_reducible refine (kimberliteref03_Row_Value.calls t167 _ _ t168 a1 t173 _ ?side1 ?side2 A8.out).mono ?_); (case side1 => repeat (first | exact (Kd.R_reads' HO170.out).2.2 | (with_reducible refine Kd.C_alloc ?_ _) | (with_reducible refine Kd.C_drewN ?_ _) | (with_reducible refine Kd.C_drew ?_))); (case side2 => exact (Kd.R_reads' HO170.out).2.1); rintro e w20 ⟨rfl, hb⟩; refine ⟨_, rfl, ?_⟩; have n0_ := Aside0.mk (Kd.R_below (by (with_reducible repeat (first | apply Kd.R_alloc | apply Kd.R_drewN | apply Kd.R_drew)); exact HO170.out) hb); have n1_ := Aside0.mk (blk_below (g := gb165) (o := .cells #[.int .i64 a0_0, .int .i64 a0_1, .slice A0_2 l0_2.length c0_2] 24 (0, 0)) (by (with_reducible repeat (first | refine blk_drewN ?_ _ | refine blk_drew ?_ | refine blk_alloc ?_ _)); exact BK165.out) hb); have n2_ := Aside0.mk (blk_below (g := gb171) (o := .cells #[.int .i64 t167, .slice Ao17 t168.length co17] 78 (0, 0)) (by (with_reducible repeat (first | refine blk_drewN ?_ _ | refine blk_drew ?_ | refine blk_alloc ?_ _)); exact BK171.out) hb); have n3_ := Aside0.mk (below_step (by repeat (first | (with_reducible first | exact HB.out | apply below_alloc | apply pw_below_drewN | apply below_drew1 | refine below_set ?_ GE165.out | refine below_set ?_ GE171.out) | exact HB.out)) hb); clear HO170; clear BK165; clear BK171; clear HB; have HO170 := n0_; have BK165 := n1_; have BK171 := n2_; have HB := n3_; clear n0_ n1_ n2_ n3_; (try clear hb); (try clear hb2); (try clear hk); (try clear hi)))
     go_ret2
     exact ⟨by first | rfl | (simp [errW_none, errW_some] <;> rfl) | (simp [*, errW_none, errW_some] <;> rfl), by repeat (first | (with_reducible first | exact HB.out | apply below_alloc | apply pw_below_drewN | apply below_drew1 | refine below_set ?_ GE165.out | refine below_set ?_ GE171.out) | exact HB.out)⟩
   · replace c7 := Bool.eq_false_iff.mpr c7
     subst c7
     have H1 : (some (0, 6)) = some (r1, r2) := by rw [if_neg (show ¬ (false = true) by decide)] at H; exact H
     clear H
     have H := H1
     clear H1
     simp only [Option.some.injEq, Prod.mk.injEq] at H
     obtain ⟨rfl, rfl⟩ := H
     go_enter Try.func29, Try.ntmps29
     go_wp2_with (first | ((with_reducible refine gate_dst (N := 2) rfl ?_); refine box_event ?hg (N := 2) ?hd (cs := #[.int .i64 a0_0, .int .i64 a0_1, .slice A0_2 l0_2.length c0_2]) (t := 24) ?hr ?_; (case hd => rfl); (case hg => rfl); (case hr => first | (go_simp; done) | (go_simp; rfl)); intro gb165 hg w21 hbox hb; have n0_ := Aside0.mk (below_step (by repeat (first | (with_reducible first | exact HB.out | apply below_alloc | apply pw_below_drewN | apply below_drew1) | exact HB.out)) hb); have n1_ := Aside0.mk (hbox); have n2_ := Aside0.mk ((by rw [hg]; exact (below_size (by repeat (first | (with_reducible first | exact HB.out | apply below_alloc | apply pw_below_drewN | apply below_drew1) | exact HB.out))) : w.heap.size ≤ gb165)); have n3_ := Aside0.mk ((by rw [hg]; exact (below_size (by repeat (first | (with_reducible first | exact HB.out | apply below_alloc | apply pw_below_drewN | apply below_drew1) | exact HB.out))) : w.heap.size ≤ gb165)); clear HB; have HB := n0_; have BK165 := n1_; have GW165 := n2_; have GE165 := n3_; clear n0_ n1_ n2_ n3_; clear hb hbox hg; have hcz22_0 : w21.cell? ⟨gb165, 0, none⟩ = some (.int .i64 a0_0) := (blk_cell BK165.out 0).trans rfl; have hcz22_1 : w21.cell? ⟨gb165, 1, none⟩ = some (.int .i64 a0_1) := (blk_cell BK165.out 1).trans rfl; have hcz22_2 : w21.cell? ⟨gb165, 2, none⟩ = some (.slice A0_2 l0_2.length c0_2) := (blk_cell BK165.out 2).trans rfl; have hfz22_0 := blk_frozen BK165.out 0; have hfz22_1 := blk_frozen BK165.out 1; have hfz22_2 := blk_frozen BK165.out 2) | ((with_reducible refine gate_callee (f := 30) rfl ?_); refine goesL_ (some 8) rfl rfl Try.func30 (by kernel_rfl) rfl #[.agg #[.int .i64 a0_0, .int .i64 a0_1, .slice A0_2 l0_2.length c0_2]] rfl (by (try simp only [List.map_toArray, List.map_cons, List.map_nil]); first | done | rfl | (simp only [List.length_drop, List.length_take]; rfl)) ?_; (with_reducible refine (kimberliteref03_Valid.calls k a0_0 a0_1 _ _ l0_2 true _ ?side1 ?side2 A3.out).mono ?_); (case side1 => repeat (first | exact (Kd.C_below HR0_2.out HB.out) | (with_reducible refine Kd.C_alloc ?_ _) | (with_reducible refine Kd.C_drewN ?_ _) | (with_reducible refine Kd.C_drew ?_))); (case side2 => exact HC0_2.out); rintro e w23 ⟨rfl, hb⟩; refine ⟨_, rfl, ?_⟩; have n0_ := Aside0.mk (blk_below (g := gb165) (o := .cells #[.int .i64 a0_0, .int .i64 a0_1, .slice A0_2 l0_2.length c0_2] 24 (0, 0)) (by (with_reducible repeat (first | refine blk_drewN ?_ _ | refine blk_drew ?_ | refine blk_alloc ?_ _)); exact BK165.out) hb); have n1_ := Aside0.mk (below_step (by repeat (first | (with_reducible first | exact HB.out | apply below_alloc | apply pw_below_drewN | apply below_drew1 | refine below_set ?_ GE165.out) | exact HB.out)) hb); clear BK165; clear HB; have BK165 := n0_; have HB := n1_; clear n0_ n1_; (try clear hb); (try clear hb2); (try clear hk); (try clear hi); have hcz24_0 : w23.cell? ⟨gb165, 0, none⟩ = some (.int .i64 a0_0) := (blk_cell BK165.out 0).trans rfl; have hcz24_1 : w23.cell? ⟨gb165, 1, none⟩ = some (.int .i64 a0_1) := (blk_cell BK165.out 1).trans rfl; have hcz24_2 : w23.cell? ⟨gb165, 2, none⟩ = some (.slice A0_2 l0_2.length c0_2) := (blk_cell BK165.out 2).trans rfl; have hfz24_0 := blk_frozen BK165.out 0; have hfz24_1 := blk_frozen BK165.out 1; have hfz24_2 := blk_frozen BK165.out 2) | ((with_reducible refine gate_callee (f := 64) rfl ?_); refine goesL_ (some 11) rfl rfl Try.func64 (by kernel_rfl) rfl #[.agg #[.int .i64 a0_0, .int .i64 a0_1, .slice A0_2 l0_2.length c0_2]] rfl (by (try simp only [List.map_toArray, List.map_cons, List.map_nil]); first | done | rfl | (simp only [List.length_drop, List.length_take]; rfl)) ?_; (with_reducible refine (kimberliteref03_Out.calls k a0_0 a0_1 _ _ l0_2 t167 t168 _ ?side1 ?side2 A5.out).mono ?_); (case side1 => repeat (first | exact (Kd.C_below HR0_2.out HB.out) | (with_reducible refine Kd.C_alloc ?_ _) | (with_reducible refine Kd.C_drewN ?_ _) | (with_reducible refine Kd.C_drew ?_))); (case side2 => exact HC0_2.out); rintro e w25 ⟨v169, rfl, ho0, hb⟩; refine ⟨_, rfl, ?_⟩; have n0_ := Aside0.mk (Kd.R_lower ho0 (below_size (by repeat (first | (with_reducible first | exact HB.out | apply below_alloc | apply pw_below_drewN | apply below_drew1 | refine below_set ?_ GE165.out) | exact HB.out)))); have n1_ := Aside0.mk (blk_below (g := gb165) (o := .cells #[.int .i64 a0_0, .int .i64 a0_1, .slice A0_2 l0_2.length c0_2] 24 (0, 0)) (by (with_reducible repeat (first | refine blk_drewN ?_ _ | refine blk_drew ?_ | refine blk_alloc ?_ _)); exact BK165.out) hb); have n2_ := Aside0.mk (below_step (by repeat (first | (with_reducible first | exact HB.out | apply below_alloc | apply pw_below_drewN | apply below_drew1 | refine below_set ?_ GE165.out) | exact HB.out)) hb); clear BK165; clear HB; have HO170 := n0_; have BK165 := n1_; have HB := n2_; clear n0_ n1_ n2_; (try clear hb); (try clear hb2); (try clear hk); (try clear hi); (try clear ho0)) | ((with_reducible refine gate_dst (N := 6) rfl ?_); refine box_event ?hg (N := 6) ?hd (cs := #[.int .i64 0, .slice none 0 0]) (t := 78) ?hr ?_; (case hd => rfl); (case hg => rfl); (case hr => first | (go_simp; done) | (go_simp; rfl)); intro gb171 hg w26 hbox hb; have n0_ := Aside0.mk (Kd.R_below (by (with_reducible repeat (first | apply Kd.R_alloc | apply Kd.R_drewN | apply Kd.R_drew)); exact HO170.out) hb); have n1_ := Aside0.mk (blk_below (g := gb165) (o := .cells #[.int .i64 a0_0, .int .i64 a0_1, .slice A0_2 l0_2.length c0_2] 24 (0, 0)) (by (with_reducible repeat (first | refine blk_drewN ?_ _ | refine blk_drew ?_ | refine blk_alloc ?_ _)); exact BK165.out) hb); have n2_ := Aside0.mk (below_step (by repeat (first | (with_reducible first | exact HB.out | apply below_alloc | apply pw_below_drewN | apply below_drew1 | refine below_set ?_ GE165.out) | exact HB.out)) hb); have n3_ := Aside0.mk (hbox); have n4_ := Aside0.mk ((by rw [hg]; exact (below_size (by repeat (first | (with_reducible first | exact HB.out | apply below_alloc | apply pw_below_drewN | apply below_drew1 | refine below_set ?_ GE165.out) | exact HB.out))) : w.heap.size ≤ gb171)); have n5_ := Aside0.mk ((by rw [hg]; exact (below_size (by repeat (first | (with_reducible first | exact HB.out | apply below_alloc | apply pw_below_drewN | apply below_drew1 | refine below_set ?_ GE165.out) | exact HB.out))) : w.heap.size ≤ gb171)); have n6_ := Aside0.mk ((by rw [hg]; exact Nat.ne_of_lt (blk_lt (g := gb165) (o := .cells #[.int .i64 a0_0, .int .i64 a0_1, .slice A0_2 l0_2.length c0_2] 24 (0, 0)) (by (with_reducible repeat (first | refine blk_drewN ?_ _ | refine blk_drew ?_ | refine blk_alloc ?_ _)); exact BK165.out)) : gb165 ≠ gb171)); have n7_ := Aside0.mk ((by rw [hg]; exact Nat.ne_of_gt (blk_lt (g := gb165) (o := .cells #[.int .i64 a0_0, .int .i64 a0_1, .slice A0_2 l0_2.length c0_2] 24 (0, 0)) (by (with_reducible repeat (first | refine blk_drewN ?_ _ | refine blk_drew ?_ | refine blk_alloc ?_ _)); exact BK165.out)) : gb171 ≠ gb165)); clear HO170; clear BK165; clear HB; have HO170 := n0_; have BK165 := n1_; have HB := n2_; have BK171 := n3_; have GW171 := n4_; have GE171 := n5_; have NB165_171 := n6_; have NB171_165 := n7_; clear n0_ n1_ n2_ n3_ n4_ n5_ n6_ n7_; clear hb hbox hg; have hnb27 := NB171_165.out; have hnc27 := NB165_171.out; have hcz28_0 : w26.cell? ⟨gb171, 0, none⟩ = some (.int .i64 0) := (blk_cell BK171.out 0).trans rfl; have hcz28_1 : w26.cell? ⟨gb171, 1, none⟩ = some (.slice none 0 0) := (blk_cell BK171.out 1).trans rfl; have hfz28_0 := blk_frozen BK171.out 0; have hfz28_1 := blk_frozen BK171.out 1; obtain ⟨Ao29, co29, eo29⟩ := Kd.R_slice HO170.out; subst eo29) | ((with_reducible refine gate_callee (f := 67) rfl ?_); refine goesL_ (some 14) rfl rfl Try.func67 (by kernel_rfl) rfl #[.agg #[.int .i64 t167, .slice Ao29 t168.length co29], .int .i64 a1] rfl (by (try simp only [List.map_toArray, List.map_cons, List.map_nil]); first | done | rfl | (simp only [List.length_drop, List.length_take]; rfl)) ?_; (with_reducible refine (kimberliteref03_Row_has.calls t167 _ _ t168 a1 false _ ?side1 ?side2 A6.out).mono ?_); (case side1 => refine (Kd.R_reads' (e := 3) (base := w.heap.size) (ok := fun k_ => True) (n := t168.length) (c := co29) ?_).2.2; exact (by (with_reducible repeat (first | apply Kd.R_alloc | apply Kd.R_drewN | apply Kd.R_drew)); exact (Kd.R_mono (Kd.R_far (p := ⟨gb171, 1, none⟩) (Kd.R_far (p := ⟨gb171, 0, none⟩) (Kd.R_types HO170.out BK171.out (by decide)) (fun _ hk => hk.2) (.int .i64 t167)) (fun _ hk => hk.2) (.slice Ao29 t168.length co29)) (fun _ h_ => h_.1)))); (case side2 => exact (Kd.R_reads' HO170.out).2.1); rintro e w30 ⟨rfl, hb⟩; refine ⟨_, rfl, ?_⟩; have n0_ := Aside0.mk (Kd.R_below (by (with_reducible repeat (first | apply Kd.R_alloc | apply Kd.R_drewN | apply Kd.R_drew)); exact (Kd.R_mono (Kd.R_far (p := ⟨gb171, 1, none⟩) (Kd.R_far (p := ⟨gb171, 0, none⟩) (Kd.R_types HO170.out BK171.out (by decide)) (fun _ hk => hk.2) (.int .i64 t167)) (fun _ hk => hk.2) (.slice Ao29 t168.length co29)) (fun _ h_ => h_.1))) hb); have n1_ := Aside0.mk (blk_below (g := gb165) (o := .cells #[.int .i64 a0_0, .int .i64 a0_1, .slice A0_2 l0_2.length c0_2] 24 (0, 0)) (by (with_reducible repeat (first | refine blk_drewN ?_ _ | refine blk_drew ?_ | refine blk_alloc ?_ _)); refine blk_far ?_ NB165_171.out _; (with_reducible repeat (first | refine blk_drewN ?_ _ | refine blk_drew ?_ | refine blk_alloc ?_ _)); refine blk_far ?_ NB165_171.out _; (with_reducible repeat (first | refine blk_drewN ?_ _ | refine blk_drew ?_ | refine blk_alloc ?_ _)); exact BK165.out) hb); have n2_ := Aside0.mk (blk_below (g := gb171) (o := .cells #[.int .i64 t167, .slice Ao29 t168.length co29] 78 (0, 0)) (by (with_reducible repeat (first | refine blk_drewN ?_ _ | refine blk_drew ?_ | refine blk_alloc ?_ _)); refine blk_put (cs := #[.int .i64 t167, .slice none 0 0]) ?_ 1 _ rfl; (with_reducible repeat (first | refine blk_drewN ?_ _ | refine blk_drew ?_ | refine blk_alloc ?_ _)); refine blk_put (cs := #[.int .i64 0, .slice none 0 0]) ?_ 0 _ rfl; (with_reducible repeat (first | refine blk_drewN ?_ _ | refine blk_drew ?_ | refine blk_alloc ?_ _)); exact BK171.out) hb); have n3_ := Aside0.mk (below_step (by repeat (first | (with_reducible first | exact HB.out | apply below_alloc | apply pw_below_drewN | apply below_drew1 | refine below_set ?_ GE165.out | refine below_set ?_ GE171.out) | exact HB.out)) hb); clear HO170; clear BK165; clear BK171; clear HB; have HO170 := n0_; have BK165 := n1_; have BK171 := n2_; have HB := n3_; clear n0_ n1_ n2_ n3_; (try clear hb); (try clear hb2); (try clear hk); (try clear hi)))
     go_ret2
     exact ⟨by first | rfl | (simp [errW_none, errW_some] <;> rfl) | (simp [*, errW_none, errW_some] <;> rfl), by repeat (first | (with_reducible first | exact HB.out | apply below_alloc | apply pw_below_drewN | apply below_drew1 | refine below_set ?_ GE165.out | refine below_set ?_ GE171.out) | exact HB.out)⟩
 · replace c4 := Bool.eq_false_iff.mpr c4
   subst c4
   have H1 : (some (0, 2)) = some (r1, r2) := by rw [if_neg (show ¬ (false = true) by decide)] at H; exact H
   clear H
   have H := H1
   clear H1
   simp only [Option.some.injEq, Prod.mk.injEq] at H
   obtain ⟨rfl, rfl⟩ := H
   go_enter Try.func29, Try.ntmps29
   go_wp2_with (first | ((with_reducible refine gate_dst (N := 2) rfl ?_); refine box_event ?hg (N := 2) ?hd (cs := #[.int .i64 a0_0, .int .i64 a0_1, .slice A0_2 l0_2.length c0_2]) (t := 24) ?hr ?_; (case hd => rfl); (case hg => rfl); (case hr => first | (go_simp; done) | (go_simp; rfl)); intro gb165 hg w31 hbox hb; have n0_ := Aside0.mk (below_step (by repeat (first | (with_reducible first | exact HB.out | apply below_alloc | apply pw_below_drewN | apply below_drew1) | exact HB.out)) hb); have n1_ := Aside0.mk (hbox); have n2_ := Aside0.mk ((by rw [hg]; exact (below_size (by repeat (first | (with_reducible first | exact HB.out | apply below_alloc | apply pw_below_drewN | apply below_drew1) | exact HB.out))) : w.heap.size ≤ gb165)); have n3_ := Aside0.mk ((by rw [hg]; exact (below_size (by repeat (first | (with_reducible first | exact HB.out | apply below_alloc | apply pw_below_drewN | apply below_drew1) | exact HB.out))) : w.heap.size ≤ gb165)); clear HB; have HB := n0_; have BK165 := n1_; have GW165 := n2_; have GE165 := n3_; clear n0_ n1_ n2_ n3_; clear hb hbox hg; have hcz32_0 : w31.cell? ⟨gb165, 0, none⟩ = some (.int .i64 a0_0) := (blk_cell BK165.out 0).trans rfl; have hcz32_1 : w31.cell? ⟨gb165, 1, none⟩ = some (.int .i64 a0_1) := (blk_cell BK165.out 1).trans rfl; have hcz32_2 : w31.cell? ⟨gb165, 2, none⟩ = some (.slice A0_2 l0_2.length c0_2) := (blk_cell BK165.out 2).trans rfl; have hfz32_0 := blk_frozen BK165.out 0; have hfz32_1 := blk_frozen BK165.out 1; have hfz32_2 := blk_frozen BK165.out 2) | ((with_reducible refine gate_callee (f := 30) rfl ?_); refine goesL_ (some 8) rfl rfl Try.func30 (by kernel_rfl) rfl #[.agg #[.int .i64 a0_0, .int .i64 a0_1, .slice A0_2 l0_2.length c0_2]] rfl (by (try simp only [List.map_toArray, List.map_cons, List.map_nil]); first | done | rfl | (simp only [List.length_drop, List.length_take]; rfl)) ?_; (with_reducible refine (kimberliteref03_Valid.calls k a0_0 a0_1 _ _ l0_2 false _ ?side1 ?side2 A3.out).mono ?_); (case side1 => repeat (first | exact (Kd.C_below HR0_2.out HB.out) | (with_reducible refine Kd.C_alloc ?_ _) | (with_reducible refine Kd.C_drewN ?_ _) | (with_reducible refine Kd.C_drew ?_))); (case side2 => exact HC0_2.out); rintro e w33 ⟨rfl, hb⟩; refine ⟨_, rfl, ?_⟩; have n0_ := Aside0.mk (blk_below (g := gb165) (o := .cells #[.int .i64 a0_0, .int .i64 a0_1, .slice A0_2 l0_2.length c0_2] 24 (0, 0)) (by (with_reducible repeat (first | refine blk_drewN ?_ _ | refine blk_drew ?_ | refine blk_alloc ?_ _)); exact BK165.out) hb); have n1_ := Aside0.mk (below_step (by repeat (first | (with_reducible first | exact HB.out | apply below_alloc | apply pw_below_drewN | apply below_drew1 | refine below_set ?_ GE165.out) | exact HB.out)) hb); clear BK165; clear HB; have BK165 := n0_; have HB := n1_; clear n0_ n1_; (try clear hb); (try clear hb2); (try clear hk); (try clear hi)))
   go_ret2
   exact ⟨by first | rfl | (simp [errW_none, errW_some] <;> rfl) | (simp [*, errW_none, errW_some] <;> rfl), by repeat (first | (with_reducible first | exact HB.out | apply below_alloc | apply pw_below_drewN | apply below_drew1 | refine below_set ?_ GE165.out) | exact HB.out)⟩
end Go.Proofs.Ytingjpcgehgiiaa.Pr
end
