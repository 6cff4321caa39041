/- What the proof of the law needs, trimmed and merged by wip/pack.py out of the texts YtingjpcgehgiiaaCvl, YtingjpcgehgiiaaExtClone, YtingjpcgehgiiaaPrx22, YtingjpcgehgiiaaAdp, YtingjpcgehgiiaaExtBwd, YtingjpcgehgiiaaFlp, YtingjpcgehgiiaaPrx28, YtingjpcgehgiiaaPrx29, YtingjpcgehgiiaaMak, YtingjpcgehgiiaaJnp, YtingjpcgehgiiaaCon, YtingjpcgehgiiaaSam. No condition. -/
import Derived.Lib.SliceRun
import Derived.RangeFuncBox
import Derived.RangeFuncLeaves
import Derived.RangeFuncFrom
import Derived.Shelf.Abstract
import Derived.WalkKit
import Derived.OwnWalkIn
import Derived.TacticsInMore
import Derived.LoopNIn
import Derived.LoopIn
import Derived.Test.YtingjpcgehgiiaaKCurveMakes0
import Derived.Test.YtingjpcgehgiiaaKCurveMakes1
import Derived.Test.YtingjpcgehgiiaaKCurveMakes2
section
namespace Go.Proofs.Ytingjpcgehgiiaa.Pr
open Go.RowKit Go.Proofs.YtingjpcgehgiiaaW.PrintWords Go.Proofs.YtingjpcgehgiiaaW.PrintLast Go.Proofs.YtingjpcgehgiiaaW.PrintMore
set_option linter.unusedVariables false
set_option linter.unusedSimpArgs false
theorem mx_eq (a b : Int) : mx a b = max a b := by unfold mx; omega
theorem mn_eq (a b : Int) : mn a b = min a b := by unfold mn; omega
theorem valid_f (c : S24) : curve_Valid.f c.f0 c.f1 c.f2 = some (decide (Vc c)) := by
  unfold curve_Valid.f
  by_cases h : Vc c
  · rw [decide_eq_true h]
    exact congrArg some h
  · rw [decide_eq_false h]
    exact congrArg some (Bool.eq_false_iff.2 h)
theorem to_f {c : S24} (h : Vc c) : curve_to.f c.f0 c.f1 c.f2 = some (c.f0 + (c.f2.length : Int)) := by
  obtain ⟨h1, h2, h3, h4, h5, _, h7⟩ := vc_parts h
  unfold curve_to.f
  have e : wrap64 (c.f0 + (c.f2.length : Int)) = c.f0 + (c.f2.length : Int) := by unfold wrap64; omega
  rw [e]
/-- The values, written out. -/
def outL (c : S24) (n : Nat) : List Int := (List.range n).map fun i : Nat => valC c (c.f0 + (i : Int))
theorem outL_len (c : S24) (n : Nat) : (outL c n).length = n := by unfold outL; rw [List.length_map, List.length_range]
theorem outL_rd (c : S24) (n i : Nat) (h : i < n) : rd (outL c n) (i : Int) = valC c (c.f0 + (i : Int)) := by
  rw [rd_nat _ _ (by rw [outL_len]; exact h)]
  unfold outL
  rw [List.getElem_map, List.getElem_range]
theorem outL_succ (c : S24) (n : Nat) : outL c (n + 1) = outL c n ++ [valC c (c.f0 + (n : Int))] := by
  unfold outL
  rw [List.range_succ, List.map_append]
  rfl
theorem tot_take_succ (l : List Int) (i : Nat) (h : i < l.length) : tot (l.take (i + 1)) = tot (l.take i) + rd l (i : Int) := by
  rw [List.take_add_one, List.getElem?_eq_getElem h, tot_append, rd_nat l i h]
  simp [tot]
theorem val_succ (c : S24) (i : Nat) (h : i < c.f2.length) : valC c (c.f0 + ((i + 1 : Nat) : Int)) = valC c (c.f0 + (i : Int)) + rd c.f2 (i : Int) := by
  unfold valC
  have e1 : (c.f0 + ((i + 1 : Nat) : Int) - c.f0).toNat = i + 1 := by omega
  have e2 : (c.f0 + (i : Int) - c.f0).toNat = i := by omega
  rw [e1, e2, tot_take_succ _ _ h]
  omega
theorem val_first (c : S24) : valC c c.f0 = c.f1 := by
  unfold valC
  have e : (c.f0 - c.f0).toNat = 0 := by omega
  rw [e]
  simp [tot]
theorem out_loop {c : S24} (h : Vc c) : ∀ n i : Nat, i + n = c.f2.length → Ev (fun k => kimberliteref03_Out.l0 k (i : Int) c.f0 c.f1 c.f2 c.f0 (outL c (i + 1))) (c.f0, outL c (c.f2.length + 1))
  | 0, i, hi => by
    have e : i = c.f2.length := by omega
    rw [← e]
    refine Ev.step (f := fun _ => some (c.f0, outL c (i + 1))) (fun k => ?_) (Ev.now _)
    simp only [kimberliteref03_Out.l0]
    rw [if_neg (by omega)]
  | n + 1, i, hi => by
    obtain ⟨h1, h2, h3, h4, h5, _, h7⟩ := vc_parts h
    have ih := out_loop h n (i + 1) (by omega)
    have ew : wrap64 ((i : Int) + 1) = ((i + 1 : Nat) : Int) := by unfold wrap64; omega
    have b := val_bound h (c.f0 + ((i + 1 : Nat) : Int))
    have hv := val_succ c i (by omega)
    have ev : wrap64 (rd (outL c (i + 1)) (i : Int) + rd c.f2 (i : Int)) = valC c (c.f0 + ((i + 1 : Nat) : Int)) := by
      rw [outL_rd c (i + 1) i (by omega), ← hv]
      unfold wrap64
      omega
    refine Ev.step (fun k => ?_) ih
    simp only [kimberliteref03_Out.l0]
    have hl := outL_len c (i + 1)
    rw [if_pos (by omega), if_pos (by omega), if_pos (by omega), if_pos (by omega), ew, ev, outL_succ c (i + 1)]
theorem out_ev {c : S24} (h : Vc c) : Ev (fun k => kimberliteref03_Out.f k c.f0 c.f1 c.f2) (c.f0, outL c (c.f2.length + 1)) := by
  have h1 := out_loop h c.f2.length 0 (by omega)
  have e : outL c (0 + 1) = [c.f1] := by
    unfold outL
    have : valC c (c.f0 + ((0 : Nat) : Int)) = c.f1 := by rw [show c.f0 + ((0 : Nat) : Int) = c.f0 by omega, val_first]
    simpa [List.range_succ] using this
  rw [e] at h1
  exact h1
theorem row_value {c : S24} (h : Vc c) {x : Int} (hx : inC c x) : kimberliteref03_Row_Value.f c.f0 (outL c (c.f2.length + 1)) x = some (valC c x) := by
  obtain ⟨h1, h2, h3, h4, h5, _, h7⟩ := vc_parts h
  obtain ⟨x1, x2⟩ := hx
  obtain ⟨k, hk⟩ := Int.eq_ofNat_of_zero_le (show 0 ≤ x - c.f0 by omega)
  have e : wrap64 (x - c.f0) = (k : Int) := by unfold wrap64; omega
  unfold kimberliteref03_Row_Value.f
  have hl := outL_len c (c.f2.length + 1)
  rw [e, if_pos (by omega), if_pos (by omega), outL_rd _ _ _ (by omega), ← hk]
  congr 2
  omega
theorem row_to {c : S24} (h : Vc c) : kimberliteref03_Row_To.f c.f0 (outL c (c.f2.length + 1)) = some (c.f0 + (c.f2.length : Int)) := by
  obtain ⟨h1, h2, h3, h4, h5, _, h7⟩ := vc_parts h
  unfold kimberliteref03_Row_To.f
  rw [outL_len]
  congr 1
  unfold wrap64
  omega
theorem mul_bound {p x P X : Int} (hp : -P ≤ p ∧ p ≤ P) (hx : -X ≤ x ∧ x ≤ X) : -(P * X) ≤ p * x ∧ p * x ≤ P * X := by
  have hP : 0 ≤ P := by omega
  have hX : 0 ≤ X := by omega
  have h1 : (p * x).natAbs ≤ (P * X).natAbs := by
    rw [Int.natAbs_mul, Int.natAbs_mul]
    exact Nat.mul_le_mul (by omega) (by omega)
  have h2 : 0 ≤ P * X := Int.mul_nonneg hP hX
  omega
theorem in_bound {c : S24} (h : Vc c) {x : Int} (hx : inC c x) : -2097152 ≤ x ∧ x ≤ 2097152 := by
  obtain ⟨h1, h2, h3, h4, h5, _, h7⟩ := vc_parts h
  obtain ⟨x1, x2⟩ := hx
  omega
end Go.Proofs.Ytingjpcgehgiiaa.Pr
end
section
namespace Go.Proofs.Ytingjpcgehgiiaa.Pr
open Go.RowKit Go.Proofs.YtingjpcgehgiiaaW.PrintWords Go.Proofs.YtingjpcgehgiiaaW.PrintLast Go.Proofs.YtingjpcgehgiiaaW.PrintMore
set_option linter.unusedVariables false
set_option linter.unusedSimpArgs false
def clone_int.f (l0 : List Int) : Option (List Int) := if l0.length ≤ 8796093022208 then some l0 else none
set_option maxHeartbeats 4000000 in
set_option maxRecDepth 100000 in
theorem clone_int.calls (A0 : Option Addr) (c0 : Nat) (l0 : List Int) (r : List Int) (w : World) (hr0 : Kd.C (Kd.int .i64) w A0 l0.length l0) (hc0 : l0.length ≤ c0) (h : clone_int.f l0 = some r) :
    Calls Try.prog 78 #[.slice A0 l0.length c0] w fun e w' => ∃ v0_ : Value, e = .returned v0_ ∧ Kd.R (Kd.int .i64) 3 w' w.heap.size (fun _ => True) v0_ r ∧ Below w.heap.size w w' := by
  unfold clone_int.f at h
  split at h
  · rename_i hlen
    injection h with h
    subst h
    have qT : ∀ (w : World) (a : Option Addr) (n c n' c' : Nat), (binOp .eql 22 (.slice a n c) (.slice none n' c')).run Try.prog w = .ok (.bool a.isNone) w := fun w a n c n' c' => Lib.run_eql_slice_nil w _ _ a n c n' c' Try.underlying22
    rcases A0 with _ | ad
    · have h0 : l0 = [] := by
        rcases l0 with _ | ⟨x, xs⟩
        · rfl
        · obtain ⟨ad, h, _⟩ := hr0.2.2 (by simp)
          cases h
      subst h0
      go_enter Try.func78, Try.ntmps78
      go_wp2
      go_ret
      exact ⟨_, rfl, Kd.R_nil _ _ _ _ _, Below.refl _ _⟩
    · have HR0 := Aside0.mk hr0
      clear hr0
      have HB := Aside0.mk (Below.refl w.heap.size w)
      have hb8 := Aside0.mk hlen
      clear hlen
      go_enter Try.func78, Try.ntmps78
      go_wp2_with (first | ((with_reducible refine gate_dst (N := 5) rfl ?_); refine Kd.R_lit (Kd.int .i64) _ 3 ?hg (N := 5) ?hd (xs := ([] : List Int)) (inner := []) (ok := fun _ => True) (okp := fun _ => True) ?hr ?hp (fun _ hk => hk) trivial (Below.refl _ _) (Nat.le_refl _) (by simp) ?_; (case hd => rfl); (case hg => rfl); (case hr => first | (go_simp; done) | (go_simp; rfl)); (case hp => exact Reps.none _ _); intro v1 w1 ho1 hb1 hg1 hn1; clear hg1 hn1; have HO := Aside0.mk (Kd.R_lower ho1 (Nat.le_refl _)); have HB1 := Aside0.mk hb1; clear ho1 hb1; clear HB; obtain ⟨Ao7, co7, eo7⟩ := Kd.R_slice HO.out; subst eo7) | (at_builtin; refine Kd.R_append_rows (Kd.int .i64) (Rr := (Kd.int .i64).K w) (w0 := w) w.heap.size rfl (.tmp 5) (.tmp 6) 22 3 (.int .i64 0) 8 rfl Try.underlying22 info3 rfl (by decide) (by omega) _ ([] : List Int) l0 (some ad) l0.length c0 (fun _ => True) (fun _ => False) rfl rfl HO.out ?aR ?aK (fun _ hk => hk.elim) (fun _ _ => trivial) HB1.out HB1.out.size ?aL ?_; (case aR => exact (Kd.C_below HR0.out HB1.out)); (case aK => (intro x cs hx; exact hx)); (case aL => (have := hb8.out; simp; omega)); intro v2 w2 ho2 hb2 hg2 hn2; clear hg2 hn2; rw [List.nil_append] at ho2; have HO2 := Aside0.mk ho2; have HB2 := Aside0.mk hb2; clear ho2 hb2 HO HB1; obtain ⟨Ao8, co8, eo8⟩ := Kd.R_slice HO2.out; subst eo8))
      go_ret
      exact ⟨_, rfl, HO2.out, HB2.out⟩
  · cases h
end Go.Proofs.Ytingjpcgehgiiaa.Pr
end
section
namespace Go.Proofs.Ytingjpcgehgiiaa.Pr
open Go.RowKit Go.Proofs.YtingjpcgehgiiaaW.PrintWords Go.Proofs.YtingjpcgehgiiaaW.PrintLast Go.Proofs.YtingjpcgehgiiaaW.PrintMore
attribute [local go_sem] max2_int min2_int max_two min_two max_three min_three max_four min_four   -- for this text's walks alone
set_option linter.unusedVariables false
set_option linter.unusedSimpArgs false
def curve_part.f (a0_0 : Int) (a0_1 : Int) (l0_2 : List Int) (a1 : Int) (a2 : Int) : Option (Int × Int × List Int) := (curve_at.f a0_0 a0_1 l0_2 a1).bind fun t474 => (if 0 ≤ (wrap64 (a1 - a0_0)) then (if (wrap64 (a1 - a0_0)) ≤ (wrap64 (a2 - a0_0)) then (if (wrap64 (a2 - a0_0)) ≤ (l0_2.length : Int) then ((clone_int.f ((l0_2.take ((wrap64 (a2 - a0_0)) : Int).toNat).drop ((wrap64 (a1 - a0_0)) : Int).toNat)).bind fun t476 => (some (a1, t474, t476))) else (none)) else (none)) else (none))
def curve_part.T1 : Bool × List (List Nat × List Nat) := (true, [([], []), ([], []), ([], []), ([1, 2], [1, 2]), ([], []), ([4], [4]), ([], []), ([], []), ([7], [7]), ([6, 8], [6, 8]), ([], []), ([], []), ([11], [11]), ([10, 12], [10, 12]), ([5, 9, 13], [5, 9, 13]), ([14, 3], [14]), ([0, 3, 15], [0, 3, 15]), ([16, 15, 0, 1, 2, 3, 4, 5, 6, 7, 8, 9, 10, 11, 12, 13, 14, 15, 16], [16])])
def curve_part.B1 : List Nat := [0, 0, 0, 6, 0, 16, 0, 0, 128, 448, 0, 0, 2048, 7168, 16368, 32766, 65535, 131071]
theorem curve_part.tab1 : rtab .any (opsOf Try.f76 1) = curve_part.T1 := by kernel_rfl
theorem curve_part.bits1 : waitsOk curve_part.T1.2 curve_part.B1 = true := by kernel_rfl
set_option maxHeartbeats 8000000 in
set_option maxRecDepth 100000 in
theorem curve_part.calls (a0_0 : Int) (a0_1 : Int) (A0_2 : Option Addr) (c0_2 : Nat) (l0_2 : List Int) (a1 : Int) (a2 : Int) (r1 : Int) (r2 : Int) (r3 : List Int) (w : World) (hr0_2 : Kd.C (Kd.int .i64) w A0_2 l0_2.length l0_2) (hc0_2 : l0_2.length ≤ c0_2) (h : curve_part.f a0_0 a0_1 l0_2 a1 a2 = some (r1, r2, r3)) :
 Calls Try.prog 76 #[.agg #[.int .i64 a0_0, .int .i64 a0_1, .slice A0_2 l0_2.length c0_2], .int .i64 a1, .int .i64 a2] w fun e w' => ∃ v2_ : Value, e = .returned (.agg #[.int .i64 r1, .int .i64 r2, v2_]) ∧ Kd.R (Kd.int .i64) 3 w' w.heap.size (fun _ => True) v2_ r3 ∧ Below w.heap.size w w' := by
 have hu24 := Try.underlying24; have HR0_2 := Aside0.mk hr0_2; have HC0_2 := Aside0.mk hc0_2; clear hr0_2 hc0_2; have HB := Aside0.mk (Below.refl w.heap.size w); have H : ((curve_at.f a0_0 a0_1 l0_2 a1).bind fun t474 => (if 0 ≤ (wrap64 (a1 - a0_0)) then (if (wrap64 (a1 - a0_0)) ≤ (wrap64 (a2 - a0_0)) then (if (wrap64 (a2 - a0_0)) ≤ (l0_2.length : Int) then ((clone_int.f ((l0_2.take ((wrap64 (a2 - a0_0)) : Int).toNat).drop ((wrap64 (a1 - a0_0)) : Int).toNat)).bind fun t476 => (some (a1, t474, t476))) else (none)) else (none)) else (none))) = some (r1, r2, r3) := h; clear h; replace H := Option.bind_eq_some_iff.mp H; obtain ⟨t474, A40, H⟩ := H; replace H : (if 0 ≤ (wrap64 (a1 - a0_0)) then (if (wrap64 (a1 - a0_0)) ≤ (wrap64 (a2 - a0_0)) then (if (wrap64 (a2 - a0_0)) ≤ (l0_2.length : Int) then ((clone_int.f ((l0_2.take ((wrap64 (a2 - a0_0)) : Int).toNat).drop ((wrap64 (a1 - a0_0)) : Int).toNat)).bind fun t476 => (some (a1, t474, t476))) else (none)) else (none)) else (none)) = some (r1, r2, r3) := H; have A4 := Aside0.mk A40; clear A40; obtain ⟨ji5, hji5⟩ : ∃ j_ : Int, (wrap64 (a1 - a0_0)) = j_ := ⟨_, rfl⟩; replace H : (if 0 ≤ (ji5) then (if (ji5) ≤ (wrap64 (a2 - a0_0)) then (if (wrap64 (a2 - a0_0)) ≤ (l0_2.length : Int) then ((clone_int.f ((l0_2.take ((wrap64 (a2 - a0_0)) : Int).toNat).drop ((ji5) : Int).toNat)).bind fun t476 => (some (a1, t474, t476))) else (none)) else (none)) else (none)) = some (r1, r2, r3) := by first | (rw [hji5] at H; exact H) | (simp only [hji5] at H ⊢; exact H)
 (try rw [hji5] at A4); have hji5w : (IntKind.i64.wrap (a1 - a0_0)) = ji5 := (i64_w _).trans hji5
 by_cases c6 : 0 ≤ (ji5)
 · rw [if_pos c6] at H; have c6b0 := eq_true c6; have c6b1 : decide (0 ≤ (ji5)) = true := decide_eq_true c6; clear c6
   by_cases c7 : (ji5) ≤ (wrap64 (a2 - a0_0))
   · rw [if_pos c7] at H; have c7b0 := eq_true c7; have c7b1 : decide ((ji5) ≤ (wrap64 (a2 - a0_0))) = true := decide_eq_true c7; clear c7
     by_cases c8 : (wrap64 (a2 - a0_0)) ≤ (l0_2.length : Int)
     · rw [if_pos c8] at H; have c8b0 := eq_true c8; have c8b1 : decide ((wrap64 (a2 - a0_0)) ≤ (l0_2.length : Int)) = true := decide_eq_true c8; clear c8; replace H := Option.bind_eq_some_iff.mp H; obtain ⟨t476, A90, H⟩ := H; replace H : (some (a1, t474, t476)) = some (r1, r2, r3) := H; have A9 := Aside0.mk A90; clear A90; simp only [Option.some.injEq, Prod.mk.injEq] at H; obtain ⟨rfl, rfl, rfl⟩ := H; go_enter Try.func76, Try.ntmps76
       try go_wp2_with (first | ((with_reducible refine gate_dst (N := 3) rfl ?_); refine box_event ?hg (N := 3) ?hd (cs := #[.int .i64 a0_0, .int .i64 a0_1, .slice A0_2 l0_2.length c0_2]) (t := 24) ?hr ?_; (case hd => rfl); (case hg => rfl); (case hr => first | (go_simp; done) | (go_simp; rfl)); intro gb472 hg w10 hbox hb; have BK472 := Aside0.mk (hbox); have GW472 := Aside0.mk ((by rw [hg]; exact (below_size (nC HB)) : w.heap.size ≤ gb472)); have GE472 := Aside0.mk ((by rw [hg]; exact (below_size (nC HB)) : w.heap.size ≤ gb472)); replace HB := Aside0.mk (below_step (nC HB) hb); clear hb hbox hg) | ((with_reducible refine gate_dst (N := 6) rfl ?_); refine box_event ?hg (N := 6) ?hd (cs := #[.int .i64 0, .int .i64 0, .slice none 0 0]) (t := 24) ?hr ?_; (case hd => rfl); (case hg => rfl); (case hr => first | (go_simp; done) | (go_simp; rfl)); intro gb473 hg w11 hbox hb; have BK473 := Aside0.mk (hbox); have GW473 := Aside0.mk ((by rw [hg]; exact (below_size (nC HB)) : w.heap.size ≤ gb473)); have GE473 := Aside0.mk ((by rw [hg]; exact (below_size (nC HB)) : w.heap.size ≤ gb473)); replace HB := Aside0.mk (below_step (nC HB) hb); have NB472_473 := Aside0.mk ((by rw [hg]; exact Nat.ne_of_lt (blk_lt (nK BK472)) : gb472 ≠ gb473)); have NB473_472 := Aside0.mk ((by rw [hg]; exact Nat.ne_of_gt (blk_lt (nK BK472)) : gb473 ≠ gb472)); replace BK472 := Aside0.mk (nB BK472 hb); clear hb hbox hg))
       replace BK472 := Aside0.mk (blk_drew BK472.out); replace BK473 := Aside0.mk (blk_drew BK473.out); replace HB := Aside0.mk (below_drew1 HB.out); obtain ⟨i013, hi013, _, hsz13, _⟩ := info_parts info3; obtain ⟨A13, hcut13, hA13, hC13⟩ := print_mid_of (P := Try.prog) (Value.int .i64) 0 22 3 .i64 .i64 Try.underlying22 hi013 hsz13 A0_2 c0_2 l0_2 (ji5) (wrap64 (a2 - a0_0)) (of_decide_eq_true (by first | (with_reducible assumption) | assumption)) (by first | omega | exact of_decide_eq_true (by first | (with_reducible assumption) | assumption)) (of_decide_eq_true (by first | (with_reducible assumption) | assumption)) HC0_2.out; have HR475 := Aside0.mk (Kd.C_of_reads (h1 := fun _ => rfl) (hA13 _ (Kd.reads_of_C HR0_2.out))); have HC475 := Aside0.mk hC13; clear hA13 hC13 hi013 hsz13; refine start_ (n := 18) (S := fun w' => w'.cell? ⟨gb472, 0, none⟩ = some (.int .i64 a0_0) ∧ w'.cell? ⟨gb472, 1, none⟩ = some (.int .i64 a0_1) ∧ w'.cell? ⟨gb472, 2, none⟩ = some (.slice A0_2 l0_2.length c0_2)) (ds := []) #[false, false, false, false, false, false, false, false, false, false, false, false, false, false, false, false, false, false] (by kernel_rfl) rfl rfl ⟨(blk_cell BK472.out 0).trans rfl, (blk_cell BK472.out 1).trans rfl, (blk_cell BK472.out 2).trans rfl⟩ (fun hHeld => ?_); refine with_tabW curve_part.tab1 curve_part.bits1 (fun HT_ HW_ => ?_); generalize w11.drew = w12 at BK472 BK473 HB HR475 hHeld ⊢; refine pure_ (i := 0) (N := some 7) (v := ?_) (a' := ?_) #[true, false, false, false, false, false, false, false, false, false, false, false, false, false, false, false, false, false] rfl rfl (any_of HT_.out (by kernel_rfl)) (fun _ _ _ h => h) (Or.inl ⟨by rfl, ?_⟩) ?_ ?_; rotate_left
       · intro w'; go_simp
         with_reducible rfl
       rotate_left
       · simp only [Act.put, zs1, zs2, zs3, i64_w, i32_w]; rfl
       refine pure_ (i := 2) (N := some 9) (v := ?_) (a' := ?_) #[true, false, true, false, false, false, false, false, false, false, false, false, false, false, false, false, false, false] rfl rfl (any_of HT_.out (by kernel_rfl)) (fun _ _ _ h => h) (Or.inl ⟨by rfl, ?_⟩) ?_ ?_; rotate_left
       · intro w'; go_simp
         with_reducible rfl
       rotate_left
       · simp only [Act.put, zs1, zs2, zs3, i64_w, i32_w]; rfl
       refine pure_ (i := 4) (N := some 11) (v := ?_) (a' := ?_) #[true, false, true, false, true, false, false, false, false, false, false, false, false, false, false, false, false, false] rfl rfl (any_of HT_.out (by kernel_rfl)) (fun _ _ _ h => h) (Or.inl ⟨by rfl, ?_⟩) ?_ ?_; rotate_left
       · intro w'; go_simp
         with_reducible rfl
       rotate_left
       · simp only [Act.put, zs1, zs2, zs3, i64_w, i32_w]; rfl
       refine pure_ (i := 6) (N := some 13) (v := ?_) (a' := ?_) #[true, false, true, false, true, false, true, false, false, false, false, false, false, false, false, false, false, false] rfl rfl (any_of HT_.out (by kernel_rfl)) (fun _ _ _ h => h) (Or.inl ⟨by rfl, ?_⟩) ?_ ?_; rotate_left
       · intro w'; go_simp
         with_reducible rfl
       rotate_left
       · simp only [Act.put, zs1, zs2, zs3, i64_w, i32_w]; rfl
       refine pure_ (i := 7) (N := some 14) (v := ?_) (a' := ?_) #[true, false, true, false, true, false, true, true, false, false, false, false, false, false, false, false, false, false] rfl rfl (any_of HT_.out (by kernel_rfl)) (fun _ _ _ h => h) (Or.inl ⟨by rfl, ?_⟩) ?_ ?_; rotate_left
       · intro w'; go_simp
         with_reducible rfl
       rotate_left
       · simp only [Act.put, zs1, zs2, zs3, i64_w, i32_w]; rfl
       refine pure_ (i := 10) (N := some 17) (v := ?_) (a' := ?_) #[true, false, true, false, true, false, true, true, false, false, true, false, false, false, false, false, false, false] rfl rfl (any_of HT_.out (by kernel_rfl)) (fun _ _ _ h => h) (Or.inl ⟨by rfl, ?_⟩) ?_ ?_; rotate_left
       · intro w'; go_simp
         with_reducible rfl
       rotate_left
       · simp only [Act.put, zs1, zs2, zs3, i64_w, i32_w]; rfl
       refine pure_ (i := 11) (N := some 18) (v := ?_) (a' := ?_) #[true, false, true, false, true, false, true, true, false, false, true, true, false, false, false, false, false, false] rfl rfl (any_of HT_.out (by kernel_rfl)) (fun _ _ _ h => h) (Or.inl ⟨by rfl, ?_⟩) ?_ ?_; rotate_left
       · intro w'; go_simp
         with_reducible rfl
       rotate_left
       · simp only [Act.put, zs1, zs2, zs3, i64_w, i32_w]; rfl
       refine take_ (i := 1) (N := some 8) (v := ?_) (a' := ?_) #[true, true, true, false, true, false, true, true, false, false, true, true, false, false, false, false, false, false] rfl rfl (take_ofW HT_.out HW_.out (by kernel_rfl)) (fun _ _ _ h => h) (Or.inl ⟨by rfl, ?_⟩) hHeld ?_ ?_; rotate_left
       · rintro w' ⟨s0, s1, s2⟩; go_simp
         with_reducible rfl
       rotate_left
       · simp only [Act.put, zs1, zs2, zs3, i64_w, i32_w]; rfl
       refine take_ (i := 5) (N := some 12) (v := ?_) (a' := ?_) #[true, true, true, false, true, true, true, true, false, false, true, true, false, false, false, false, false, false] rfl rfl (take_ofW HT_.out HW_.out (by kernel_rfl)) (fun _ _ _ h => h) (Or.inl ⟨by rfl, ?_⟩) hHeld ?_ ?_; rotate_left
       · rintro w' ⟨s0, s1, s2⟩; go_simp
         with_reducible rfl
       rotate_left
       · simp only [Act.put, zs1, zs2, zs3, i64_w, i32_w]; rfl
       refine take_ (i := 8) (N := some 15) (v := ?_) (a' := ?_) #[true, true, true, false, true, true, true, true, true, false, true, true, false, false, false, false, false, false] rfl rfl (take_ofW HT_.out HW_.out (by kernel_rfl)) (fun _ _ _ h => h) (Or.inl ⟨by rfl, ?_⟩) hHeld ?_ ?_; rotate_left
       · rintro w' ⟨s0, s1, s2⟩; go_simp
         with_reducible rfl
       rotate_left
       · simp only [Act.put, zs1, zs2, zs3, i64_w, i32_w]; rfl
       refine pure_ (i := 9) (N := some 16) (v := ?_) (a' := ?_) #[true, true, true, false, true, true, true, true, true, true, true, true, false, false, false, false, false, false] rfl rfl (any_of HT_.out (by kernel_rfl)) (fun _ _ _ h => h) (Or.inl ⟨by rfl, ?_⟩) ?_ ?_; rotate_left
       · intro w'; go_simp
         with_reducible rfl
       rotate_left
       · simp only [Act.put, zs1, zs2, zs3, i64_w, i32_w]; rfl
       refine take_ (i := 12) (N := some 19) (v := ?_) (a' := ?_) #[true, true, true, false, true, true, true, true, true, true, true, true, true, false, false, false, false, false] rfl rfl (take_ofW HT_.out HW_.out (by kernel_rfl)) (fun _ _ _ h => h) (Or.inl ⟨by rfl, ?_⟩) hHeld ?_ ?_; rotate_left
       · rintro w' ⟨s0, s1, s2⟩; go_simp
         with_reducible rfl
       rotate_left
       · simp only [Act.put, zs1, zs2, zs3, i64_w, i32_w]; rfl
       refine pure_ (i := 13) (N := some 20) (v := ?_) (a' := ?_) #[true, true, true, false, true, true, true, true, true, true, true, true, true, true, false, false, false, false] rfl rfl (any_of HT_.out (by kernel_rfl)) (fun _ _ _ h => h) (Or.inl ⟨by rfl, ?_⟩) ?_ ?_; rotate_left
       · intro w'; go_simp
         with_reducible rfl
       rotate_left
       · simp only [Act.put, zs1, zs2, zs3, i64_w, i32_w]; rfl
       refine pure_ (i := 14) (N := some 21) (v := ?_) (a' := ?_) #[true, true, true, false, true, true, true, true, true, true, true, true, true, true, true, false, false, false] rfl rfl (any_of HT_.out (by kernel_rfl)) (fun _ _ _ h => h) (Or.inl ⟨by rfl, ?_⟩) ?_ ?_; rotate_left
       · intro w'; go_simp
         with_reducible rfl
       rotate_left
       · simp only [Act.put, zs1, zs2, zs3, i64_w, i32_w]; rfl
       refine one_ (i := 3) (N := some 10) #[true, true, true, true, true, true, true, true, true, true, true, true, true, true, true, false, false, false] rfl rfl (one_of HT_.out (by kernel_rfl)) (by decide) (fun K hK => ?_); refine gO Try.func61 #[.agg #[.int .i64 a0_0, .int .i64 a0_1, .slice A0_2 l0_2.length c0_2], .int .i64 a1] ?_
       with_reducible refine (curve_at.calls a0_0 a0_1 _ _ l0_2 a1 t474 _ ?side1 ?side2 A4.out).mono ?_
       (case side1 => exact nS HR0_2 HB); (case side2 => exact HC0_2.out); rintro e w14 ⟨rfl, hb⟩; refine ⟨_, rfl, ?_⟩; replace BK472 := Aside0.mk (nB BK472 hb); replace BK473 := Aside0.mk (nB BK473 hb); replace HB := Aside0.mk (below_step (nC HB) hb); (try clear hb); (try clear hb2); (try clear hk); (try clear hi); refine hK.out _ _ ⟨(blk_cell BK472.out 0).trans rfl, (blk_cell BK472.out 1).trans rfl, (blk_cell BK472.out 2).trans rfl⟩ (fun hHeld => ?_); clear hK K; refine norm_ (a' := ?_) ?_ ?_; rotate_left
       · show Act.put _ (some 10) _ = _; simp only [Act.put, zs1, zs2, zs3, i64_w, i32_w]; rfl
       refine one_ (i := 15) (N := some 22) #[true, true, true, true, true, true, true, true, true, true, true, true, true, true, true, true, false, false] rfl rfl (one_of HT_.out (by kernel_rfl)) (by decide) (fun K hK => ?_); refine goes_ Try.func78 (by kernel_rfl) rfl #[.slice A13 ((l0_2.take ((wrap64 (a2 - a0_0)) : Int).toNat).drop ((ji5) : Int).toNat).length (c0_2 - (ji5).toNat)] (by rfl) rfl rfl (by (try simp only [List.map_toArray, List.map_cons, List.map_nil]); first | done | (rw [show ((l0_2.take ((wrap64 (a2 - a0_0)) : Int).toNat).drop ((ji5) : Int).toNat).length = ((wrap64 (a2 - a0_0)).toNat - (ji5).toNat) from (by rw [List.length_drop, List.length_take]; have h_ : ((wrap64 (a2 - a0_0)) : Int) ≤ (l0_2.length : Int) := of_decide_eq_true (by first | (with_reducible assumption) | assumption); omega)] <;> rfl) | (simp only [hji5]; rfl) | rfl | (simp only [List.length_drop, List.length_take]; rfl)) ?_
       with_reducible refine (clone_int.calls _ _ ((l0_2.take ((wrap64 (a2 - a0_0)) : Int).toNat).drop ((ji5) : Int).toNat) t476 _ ?side1 ?side2 A9.out).mono ?_
       (case side1 => exact nS HR475 HB); (case side2 => exact HC475.out); rintro e w15 ⟨v477, rfl, ho0, hb⟩; refine ⟨_, rfl, ?_⟩; have HO478 := Aside0.mk (Kd.R_lower ho0 (below_size (nC HB))); replace BK472 := Aside0.mk (nB BK472 hb); replace BK473 := Aside0.mk (nB BK473 hb); replace HB := Aside0.mk (below_step (nC HB) hb); (try clear hb); (try clear hb2); (try clear hk); (try clear hi); (try clear ho0); obtain ⟨Ao16, co16, eo16⟩ := Kd.R_slice HO478.out; (first | subst eo16 | (injection eo16 with f1_ f2_ f3_; have f4_ := f1_.symm; have f5_ := f3_.symm; clear f1_ f2_ f3_; subst f4_; subst f5_)); refine hK.out _ _ ⟨(blk_cell BK472.out 0).trans rfl, (blk_cell BK472.out 1).trans rfl, (blk_cell BK472.out 2).trans rfl⟩ (fun hHeld => ?_); clear hK K; refine norm_ (a' := ?_) ?_ ?_; rotate_left
       · show Act.put _ (some 22) _ = _; simp only [Act.put, zs1, zs2, zs3, i64_w, i32_w]; rfl
       refine pure_ (i := 16) (N := some 23) (v := ?_) (a' := ?_) #[true, true, true, true, true, true, true, true, true, true, true, true, true, true, true, true, true, false] rfl rfl (any_of HT_.out (by kernel_rfl)) (fun _ _ _ h => h) (Or.inl ⟨by rfl, ?_⟩) ?_ ?_; rotate_left
       · intro w'; go_simp
         with_reducible rfl
       rotate_left
       · simp only [Act.put, zs1, zs2, zs3, i64_w, i32_w]; rfl
       refine one_ (i := 17) (N := none) #[true, true, true, true, true, true, true, true, true, true, true, true, true, true, true, true, true, true] rfl rfl (one_of HT_.out (by kernel_rfl)) (by decide) (fun K hK => ?_); have hs17 : w15.cell? ⟨gb473, 0, none⟩ = some (.int .i64 0) := (blk_cell BK473.out 0).trans rfl; have hfs17 := blk_frozen BK473.out 0; have hns17_0 := NB472_473.out; have hms17_0 := NB473_472.out; have hs18 : w15.cell? ⟨gb473, 1, none⟩ = some (.int .i64 0) := (blk_cell BK473.out 1).trans rfl; have hfs18 := blk_frozen BK473.out 1; have hns18_0 := NB472_473.out; have hms18_0 := NB473_472.out; have hs19 : w15.cell? ⟨gb473, 2, none⟩ = some (.slice none 0 0) := (blk_cell BK473.out 2).trans rfl; have hfs19 := blk_frozen BK473.out 2; have hns19_0 := NB472_473.out; have hms19_0 := NB473_472.out; refine skip_ (w1 := ?_) (by rfl) rfl ?_ ?_; rotate_left
       · go_simp
         rfl
       refine hK.out _ _ ⟨((cell_far (p := ⟨gb473, _, none⟩) NB472_473.out _).trans (((cell_far (p := ⟨gb473, _, none⟩) NB472_473.out _).trans (((cell_far (p := ⟨gb473, _, none⟩) NB472_473.out _).trans (hHeld.1)))))), ((cell_far (p := ⟨gb473, _, none⟩) NB472_473.out _).trans (((cell_far (p := ⟨gb473, _, none⟩) NB472_473.out _).trans (((cell_far (p := ⟨gb473, _, none⟩) NB472_473.out _).trans (hHeld.2.1)))))), ((cell_far (p := ⟨gb473, _, none⟩) NB472_473.out _).trans (((cell_far (p := ⟨gb473, _, none⟩) NB472_473.out _).trans (((cell_far (p := ⟨gb473, _, none⟩) NB472_473.out _).trans (hHeld.2.2))))))⟩ (fun hHeld => ?_); clear hK K; refine done_ (done_of HT_.out (by kernel_rfl)) ?_; try go_wp2
       refine bodyPost_ret (results_cell_row rfl _ _ gb473 24 #[.int .i64 a1, .int .i64 t474, .slice Ao16 t476.length co16] (0, 0) _ rfl (by (with_reducible repeat (first | refine blk_drewN ?_ _ | refine blk_drew ?_ | refine blk_alloc ?_ _)); refine blk_put (cs := #[.int .i64 a1, .int .i64 t474, .slice none 0 0]) ?_ 2 _ rfl; (with_reducible repeat (first | refine blk_drewN ?_ _ | refine blk_drew ?_ | refine blk_alloc ?_ _)); refine blk_put (cs := #[.int .i64 a1, .int .i64 0, .slice none 0 0]) ?_ 1 _ rfl; (with_reducible repeat (first | refine blk_drewN ?_ _ | refine blk_drew ?_ | refine blk_alloc ?_ _)); refine blk_put (cs := #[.int .i64 0, .int .i64 0, .slice none 0 0]) ?_ 0 _ rfl; (with_reducible repeat (first | refine blk_drewN ?_ _ | refine blk_drew ?_ | refine blk_alloc ?_ _)); exact BK473.out) Try.underlying24 rfl (by kernel_rfl)) rfl ?_; exact ⟨_, by first | rfl | (simp [errW_none, errW_some] <;> rfl) | (simp only [← hji5]; first | rfl | (simp [errW_none, errW_some] <;> rfl)) | (simp [*, errW_none, errW_some] <;> rfl), by (with_reducible repeat (first | apply Kd.R_alloc | apply Kd.R_drewN | apply Kd.R_drew)); exact Kd.R_mono (Kd.R_far (p := ⟨gb473, 2, none⟩) (Kd.R_far (p := ⟨gb473, 1, none⟩) (Kd.R_far (p := ⟨gb473, 0, none⟩) (Kd.R_types HO478.out BK473.out (by decide)) (fun _ hk => hk.2) (.int .i64 a1)) (fun _ hk => hk.2) (.int .i64 t474)) (fun _ hk => hk.2) (.slice Ao16 t476.length co16)) (fun _ hk => trivial), nC HB⟩
     · rw [if_neg c8] at H; exact absurd H (by simp)
   · rw [if_neg c7] at H; exact absurd H (by simp)
 · rw [if_neg c6] at H; exact absurd H (by simp)
end Go.Proofs.Ytingjpcgehgiiaa.Pr
end
section
namespace Go.Proofs.Ytingjpcgehgiiaa.Pr
open Go.RowKit Go.Proofs.YtingjpcgehgiiaaW.PrintWords Go.Proofs.YtingjpcgehgiiaaW.PrintLast Go.Proofs.YtingjpcgehgiiaaW.PrintMore
set_option linter.unusedVariables false
set_option linter.unusedSimpArgs false
/-- The slopes of a part. -/
def sub (c : S24) (lo hi : Int) : List Int := (c.f2.take (hi - c.f0).toNat).drop (lo - c.f0).toNat
theorem sub_len {c : S24} {lo hi : Int} (h1 : inC c lo) (h2 : inC c hi) : (sub c lo hi).length = (hi - c.f0).toNat - (lo - c.f0).toNat := by
  obtain ⟨a, b⟩ := h1
  obtain ⟨a2, b2⟩ := h2
  unfold sub
  rw [List.length_drop, List.length_take]
  omega
theorem sub_mem {c : S24} {lo hi : Int} {s : Int} (h : s ∈ sub c lo hi) : s ∈ c.f2 := List.mem_of_mem_take (List.mem_of_mem_drop h)
theorem part_f {c : S24} (h : Vc c) {lo hi : Int} (h1 : inC c lo) (h2 : inC c hi) (h3 : lo ≤ hi) : curve_part.f c.f0 c.f1 c.f2 lo hi = some (lo, valC c lo, sub c lo hi) := by
  obtain ⟨v1, v2, v3, v4, v5, _, v7⟩ := vc_parts h
  have hv := at_val h h1
  obtain ⟨a1, b1⟩ := h1
  obtain ⟨a2, b2⟩ := h2
  have e1 : wrap64 (lo - c.f0) = lo - c.f0 := by clear hv; unfold wrap64; omega
  have e2 : wrap64 (hi - c.f0) = hi - c.f0 := by clear hv e1; unfold wrap64; omega
  have q1 : 0 ≤ lo - c.f0 := by clear hv e1 e2; omega
  have q2 : lo - c.f0 ≤ hi - c.f0 := by clear hv e1 e2; omega
  have q3 : hi - c.f0 ≤ (c.f2.length : Int) := by clear hv e1 e2; omega
  unfold curve_part.f
  have q4 : ((c.f2.take (hi - c.f0).toNat).drop (lo - c.f0).toNat).length ≤ 8796093022208 := by rw [List.length_drop, List.length_take]; clear hv e1 e2; omega
  rw [hv, Option.bind_some, e1, e2, if_pos q1, if_pos q2, if_pos q3]
  unfold clone_int.f
  rw [if_pos q4]
  rfl
def addC (a b : S24) (lo hi : Int) : S24 := ⟨lo, valC a lo + valC b lo, List.zipWith (fun x y => x + y) (sub a lo hi) (sub b lo hi)⟩
def toC (c : S24) : Int := c.f0 + (c.f2.length : Int)
def addOk (a b : S24) : Int × Int × List Int × Int :=
  if mn (toC a) (toC b) < mx a.f0 b.f0 then (0, 0, [], 6) else if Vc (addC a b (mx a.f0 b.f0) (mn (toC a) (toC b))) then ((addC a b (mx a.f0 b.f0) (mn (toC a) (toC b))).f0, (addC a b (mx a.f0 b.f0) (mn (toC a) (toC b))).f1, (addC a b (mx a.f0 b.f0) (mn (toC a) (toC b))).f2, 0) else (0, 0, [], 4)
def addR (a b : S24) : Int × Int × List Int × Int := if (validC a.f0 a.f1 a.f2 && validC b.f0 b.f1 b.f2) = true then addOk a b else (0, 0, [], 2)
def curve_Add.f (k : Nat) (a0_0 a0_1 : Int) (l0_2 : List Int) (a1_0 a1_1 : Int) (l1_2 : List Int) : Option (Int × Int × List Int × Int) := some (addR ⟨a0_0, a0_1, l0_2⟩ ⟨a1_0, a1_1, l1_2⟩)
theorem curve_Add.mono : ∀ a0 a1 a2 a3 a4 a5 k, LeO (curve_Add.f k a0 a1 a2 a3 a4 a5) (curve_Add.f (k + 1) a0 a1 a2 a3 a4 a5) := fun _ _ _ _ _ _ _ => LeO.refl _
theorem add_in {a b : S24} (ha : Vc a) (hb : Vc b) (h : ¬mn (toC a) (toC b) < mx a.f0 b.f0) : inC a (mx a.f0 b.f0) ∧ inC a (mn (toC a) (toC b)) ∧ inC b (mx a.f0 b.f0) ∧ inC b (mn (toC a) (toC b)) ∧ mx a.f0 b.f0 ≤ mn (toC a) (toC b) := by
  rw [mx_eq, mn_eq] at *
  unfold inC toC at *
  omega
/-- What the walk asks of a valid curve. -/
structure Adf (a0 a1 : Int) (l : List Int) : Prop where
  tto : curve_to.f a0 a1 l = some (a0 + (l.length : Int))
  part : ∀ lo hi : Int, inC ⟨a0, a1, l⟩ lo → inC ⟨a0, a1, l⟩ hi → lo ≤ hi → curve_part.f a0 a1 l lo hi = some (lo, valC ⟨a0, a1, l⟩ lo, sub ⟨a0, a1, l⟩ lo hi)
  val : ∀ x, -1099578736640 ≤ valC ⟨a0, a1, l⟩ x ∧ valC ⟨a0, a1, l⟩ x ≤ 1099578736640
  slope : ∀ s ∈ l, -1048576 ≤ s ∧ s ≤ 1048576
  len : l.length ≤ 64
theorem adf_of {a0 a1 : Int} {l : List Int} (h : validC a0 a1 l = true) : Adf a0 a1 l :=
  ⟨to_f (c := ⟨a0, a1, l⟩) h, fun lo hi h1 h2 h3 => part_f (c := ⟨a0, a1, l⟩) h h1 h2 h3, fun x => val_bound (c := ⟨a0, a1, l⟩) h x, (vc_parts (c := ⟨a0, a1, l⟩) h).2.2.2.2.2.2, (vc_parts (c := ⟨a0, a1, l⟩) h).2.2.2.2.1⟩
end Go.Proofs.Ytingjpcgehgiiaa.Pr
end
section
namespace Go.Proofs.Ytingjpcgehgiiaa.Pr
open Go.RowKit Go.Shelf Go.Proofs.YtingjpcgehgiiaaW.PrintWords Go.Proofs.YtingjpcgehgiiaaW.PrintLast Go.Proofs.YtingjpcgehgiiaaW.PrintMore
attribute [local go_sem] Oper.semAt_some
set_option linter.unusedVariables false
set_option linter.unusedSimpArgs false
/-- What has come when k rounds are over: the last k, from the end on. -/
def bwd (zs : List Int) (k : Nat) : List (Int × Int) := (List.range k).map fun j : Nat => (((zs.length - 1 - j : Nat) : Int), rd zs ((zs.length - 1 - j : Nat) : Int))
theorem bwd_succ (zs : List Int) (k : Nat) : bwd zs (k + 1) = bwd zs k ++ [(((zs.length - 1 - k : Nat) : Int), rd zs ((zs.length - 1 - k : Nat) : Int))] := by simp [bwd, List.range_succ]
theorem bwd_len (zs : List Int) (k : Nat) : (bwd zs k).length = k := by simp [bwd]
/-- What a round keeps: what lay below n, but for one block. -/
def Kq (n g : Nat) (W W' : World) : Prop := ∀ k, k < n → k ≠ g → W'.heap[k]? = W.heap[k]?
theorem Kq.refl (n g : Nat) (W : World) : Kq n g W W := fun _ _ _ => rfl
theorem Kq.trans {n g : Nat} {A B C : World} (h : Kq n g A B) (k : Kq n g B C) : Kq n g A C := fun i h1 h2 => (k i h1 h2).trans (h i h1 h2)
theorem Kq.cell {n g : Nat} {A B : World} (h : Kq n g A B) {p : Addr} (h1 : p.block < n) (h2 : p.block ≠ g) : B.cell? p = A.cell? p := by
  unfold World.cell?
  rw [h p.block h1 h2]
theorem Kq.putObj {n g : Nat} {W : World} {l : Nat} (o : Obj) (h : n ≤ l) : Kq n g W (W.putObj l o) := fun k h1 _ => World.putObj_heap_other (by omega)
theorem add_block (ad : Addr) (i : Nat) : (ad.add i).block = ad.block := by
  unfold Addr.add
  first | rfl | (split <;> rfl)
set_option maxRecDepth 100000 in
set_option maxHeartbeats 2000000 in
theorem bwd1_in (F : Fence) (n : Nat) (h8 : F.fn 87) (hro : F.round = none) (hn : 1 ≤ n) (l Bs n₀ g cap : Nat) (ad : Addr) (zs : List Int) (hreach : zs.length ≤ 1000000) (hb : ad.block < n₀) (hbg : ad.block ≠ g) (hBn : Bs < n₀) (hBg : Bs ≠ g) (J Jx : List (Int × Int) → World → Prop)
    (hY : ∀ pre x W, J pre W → pre.length < zs.length → YieldAt F (n - 1) Try.prog l #[.int .i64 x.1, .int .i64 x.2] W fun e W' =>
      (e = .returned (.bool true) ∧ J (pre ++ [x]) W' ∧ Kq n₀ g W W') ∨ (e = .returned (.bool false) ∧ Jx (pre ++ [x]) W'))
    (W : World) (hBs : W.cell? ⟨Bs, 0, none⟩ = some (.slice (some ad) zs.length cap)) (hc : ∀ j, j < zs.length → W.cell? (ad.add j) = some (.int .i64 (rd zs (j : Int)))) (h0 : J [] W) :
    CallsIn F n Try.prog 87 #[.func (.yield l) #[] #[], .pointer (some ⟨Bs, 0, none⟩)] W fun e W' => (∃ v, e = .returned v) ∧
      ((∃ ys, ys = bwd zs zs.length ∧ J ys W') ∨ (∃ pre, (∃ k, k ≤ zs.length ∧ pre = bwd zs k) ∧ Jx pre W')) := by
  refine callsIn_of_wp Try.func87 rfl h8 ?_ hro
  simp only [Try.ntmps87, List.size_toArray, List.length_cons, List.length_nil, Nat.reduceAdd, Nat.reduceSub, Array.replicate_succ, Array.replicate_zero, List.push_toArray, List.append_toArray, List.nil_append, List.cons_append]
  gi_wp2
  gi_loopw [3] (fun i wr => ∃ k : Nat, k ≤ zs.length ∧ i = .int .i64 ((zs.length : Int) - 1 - (k : Int)) ∧ J (bwd zs k) wr ∧ Kq n₀ g W wr)
    (fun i _ => (intOf i + 1).toNat)
  case atStart => exact ⟨0, Nat.zero_le _, by go_num, h0, Kq.refl _ _ _⟩
  case round =>
    obtain ⟨k, hk, rfl, hJs, hnx⟩ := hrel
    by_cases hlt : k < zs.length
    · obtain ⟨i, hi⟩ : ∃ i : Nat, i = zs.length - 1 - k := ⟨_, rfl⟩
      have ei : (zs.length : Int) - 1 - (k : Int) = (i : Int) := by omega
      rw [ei]
      have hil : i < zs.length := by omega
      have hilz : (i : Int) < (zs.length : Int) := by omega
      have hi0 : (0 : Int) ≤ (i : Int) := by omega
      have hcx' : wr.cell? (ad.add i) = some (.int .i64 (rd zs (i : Int))) := (hnx.cell (p := ad.add i) (by rw [add_block]; exact hb) (by rw [add_block]; exact hbg)).trans (hc i hil)
      have hbx' : wr.cell? ⟨Bs, 0, none⟩ = some (.slice (some ad) zs.length cap) := (hnx.cell (p := ⟨Bs, 0, none⟩) hBn hBg).trans hBs
      obtain ⟨xv, hxv⟩ : ∃ xv, rd zs (i : Int) = xv := ⟨_, rfl⟩
      rw [hxv] at hcx'
      have HXV := Aside0.mk hxv
      clear hxv
      obtain ⟨fn, tmps, assign, body, hy, hR⟩ := hY _ ((i : Int), xv) wr hJs (by rw [bwd_len]; exact hlt)
      dsimp only at hy
      have HI := Aside0.mk hi
      clear hi ei
      gi_wp2
      refine hR.mono ?_
      rintro e W3 (⟨rfl, hJ3, hk3⟩ | ⟨rfl, hJx3⟩)
      · gi_wp2
        go_roundw
        case rel => exact ⟨k + 1, by omega, by have := HI.out; go_num, by rw [bwd_succ, ← HI.out, HXV.out]; exact hJ3, hnx.trans hk3⟩
        case measure => first | (simp [intOf]; done) | (simp [intOf]; omega)
      · gi_wp2
        refine bodyPost_ret (results_none rfl _ _ _) rfl ?_
        exact ⟨⟨_, rfl⟩, .inr ⟨_, ⟨k + 1, by omega, by rw [bwd_succ, ← HI.out, HXV.out]⟩, hJx3⟩⟩
    · obtain rfl : k = zs.length := by omega
      have ei : (zs.length : Int) - 1 - (zs.length : Int) = -1 := by omega
      rw [ei]
      gi_wp2
      go_end0
      exact ⟨⟨_, rfl⟩, .inl ⟨_, rfl, hJs⟩⟩
set_option maxRecDepth 100000 in
set_option maxHeartbeats 1000000 in
theorem bwd1_nil_in (F : Fence) (n : Nat) (h8 : F.fn 87) (hro : F.round = none) (l Bs : Nat) (A : Option Addr) (cap : Nat) (J : List (Int × Int) → World → Prop) (W : World) (hBs : W.cell? ⟨Bs, 0, none⟩ = some (.slice A 0 cap)) (h0 : J [] W) :
    CallsIn F n Try.prog 87 #[.func (.yield l) #[] #[], .pointer (some ⟨Bs, 0, none⟩)] W fun e W' => (∃ v, e = .returned v) ∧ J [] W' := by
  refine callsIn_of_wp Try.func87 rfl h8 ?_ hro
  simp only [Try.ntmps87, List.size_toArray, List.length_cons, List.length_nil, Nat.reduceAdd, Nat.reduceSub, Array.replicate_succ, Array.replicate_zero, List.push_toArray, List.append_toArray, List.nil_append, List.cons_append]
  gi_wp2
  gi_loopw [3] (fun i wr => i = .int .i64 (-1) ∧ J [] wr) (fun _ _ => 0)
  case atStart => exact ⟨by go_num, h0⟩
  case round =>
    obtain ⟨rfl, hJs⟩ := hrel
    gi_wp2
    go_end0
    exact ⟨⟨_, rfl⟩, hJs⟩
set_option maxHeartbeats 1000000 in
/-- slices.Backward(s): the slice is boxed; the function value captures the box. -/
theorem backward_in (F : Fence) (n : Nat) (h5 : F.fn 77) (hro : F.round = none) (a : Option Addr) (len cap : Nat) (w : World) :
    CallsIn F n Try.prog 77 #[.slice a len cap] w fun e w' => e = .returned (.func (.func 87) #[] #[.pointer (some ⟨w.heap.size, 0, none⟩)]) ∧ w' = w.alloc (.cells #[.slice a len cap] 22) := by
  refine callsIn_of_wp Try.func77 rfl h5 ?_ hro
  simp only [Try.ntmps77, List.size_toArray, List.length_cons, List.length_nil, Nat.reduceAdd, Nat.reduceSub, Array.replicate_succ, Array.replicate_zero, List.push_toArray, List.append_toArray, List.nil_append, List.cons_append]
  gi_wp2
  go_ret
  exact ⟨rfl, rfl⟩
/-- It hands back a value that stops: all, from the end on. -/
theorem bwd_stops (F : Fence) (n : Nat) (h7 : F.fn 87) (hro : F.round = none) (hn : 1 ≤ n) (Bs n₀ g : Nat) (A : Option Addr) (cap : Nat) (zs : List Int) (hreach : zs.length ≤ 1000000) (w : World) (hBs : Bs < n₀) (hBg : Bs ≠ g) (hn₀ : n₀ ≤ w.heap.size)
    (hc : w.cell? ⟨Bs, 0, none⟩ = some (.slice A zs.length cap)) (hI : 0 < zs.length → ∃ ad, A = some ad ∧ ad.block < n₀ ∧ ad.block ≠ g ∧ ∀ j, j < zs.length → w.cell? (ad.add j) = some (.int .i64 (rd zs (j : Int)))) :
    SeqStopsK F n Try.prog 87 #[.pointer (some ⟨Bs, 0, none⟩)] (fun x : Int × Int => #[Value.int .i64 x.1, Value.int .i64 x.2]) (Kq n₀ g) (fun ys => ys = bwd zs zs.length) (fun pre => True) zs.length w := fun l J Jx W hW _ _ hY h0 => by
  have hc' := (hW.cell (p := ⟨Bs, 0, none⟩) (Nat.lt_of_lt_of_le hBs hn₀)).trans hc
  by_cases h : 0 < zs.length
  · obtain ⟨ad, rfl, h1, h1g, h2⟩ := hI h
    refine (bwd1_in F n h7 hro hn l Bs n₀ g cap ad zs hreach h1 h1g hBs hBg J Jx hY W hc' (fun j hj => (hW.cell (p := ad.add j) (by rw [add_block]; exact Nat.lt_of_lt_of_le h1 hn₀)).trans (h2 j hj)) h0).mono ?_
    rintro e W' ⟨he, ⟨ys, rfl, hj⟩ | ⟨pre, ⟨k, hk, rfl⟩, hj⟩⟩
    · exact ⟨he, .inl ⟨_, rfl, hj⟩⟩
    · exact ⟨he, .inr ⟨_, trivial, hj⟩⟩
  · have e : zs = [] := List.eq_nil_of_length_eq_zero (by omega)
    subst e
    exact (bwd1_nil_in F n h7 hro l Bs A cap J W hc' h0).mono fun e W' ⟨he, hj⟩ => ⟨he, .inl ⟨_, rfl, hj⟩⟩
end Go.Proofs.Ytingjpcgehgiiaa.Pr
end
section
namespace Go.Proofs.Ytingjpcgehgiiaa.Pr
open Go.RowKit Go.Shelf Go.Proofs.YtingjpcgehgiiaaW.PrintWords Go.Proofs.YtingjpcgehgiiaaW.PrintLast Go.Proofs.YtingjpcgehgiiaaW.PrintMore
set_option linter.unusedVariables false
set_option linter.unusedSimpArgs false
/-- The curve turned around. -/
def negs (l : List Int) : List Int := l.map fun s => wrap64 (-s)
def flipC (c : S24) : S24 := ⟨wrap64 (-(toC c)), valC c (toC c), negs c.f2.reverse⟩
def flipR (c : S24) : Int × Int × List Int × Int := if validC c.f0 c.f1 c.f2 = true then (if validC (flipC c).f0 (flipC c).f1 (flipC c).f2 = true then ((flipC c).f0, (flipC c).f1, (flipC c).f2, 0) else (0, 0, [], 4)) else (0, 0, [], 2)
def curve_Flip.f (k : Nat) (a0_0 a0_1 : Int) (l0_2 : List Int) : Option (Int × Int × List Int × Int) := some (flipR ⟨a0_0, a0_1, l0_2⟩)
theorem curve_Flip.mono : ∀ a0 a1 a2 k, LeO (curve_Flip.f k a0 a1 a2) (curve_Flip.f (k + 1) a0 a1 a2) := fun _ _ _ _ => LeO.refl _
theorem flip_at {c : S24} (h : Vc c) : curve_at.f c.f0 c.f1 c.f2 (toC c) = some (valC c (toC c)) := at_val h (show inC c (toC c) by unfold inC toC; omega)
theorem bwd_neg (l : List Int) : (bwd l l.length).map (fun x => wrap64 (-x.2)) = negs l.reverse := by
  unfold bwd negs
  rw [List.map_map]
  apply List.ext_getElem?
  intro j
  rw [List.getElem?_map, List.getElem?_map]
  by_cases hj : j < l.length
  · rw [List.getElem?_range hj, List.getElem?_eq_getElem (by rw [List.length_reverse]; exact hj), List.getElem_reverse]
    simp only [Option.map_some, Function.comp]
    rw [rd_nat _ _ (show l.length - 1 - j < l.length by omega)]
  · rw [List.getElem?_eq_none (by rw [List.length_range]; omega), List.getElem?_eq_none (by rw [List.length_reverse]; omega)]
    rfl
/-- What the loop has made: the box of the curve, its row, the result's box. -/
def FlipI (w : World) (n₀ g8 g4 : Nat) (nt va : Int) (pre : List (Int × Int)) (W : World) : Prop :=
  (∃ v, W.heap[g8]? = some (.cells #[.int .i64 nt, .int .i64 va, v] 24 (0, 0)) ∧ W.ownsRow n₀ 3 1 v pre.length (encs (Value.int .i64) (pre.map fun x => wrap64 (-x.2)))) ∧ W.heap[g4]? = some (.cells #[.int .i64 0, .int .i64 0, .slice none 0 0] 24 (0, 0)) ∧ Below w.heap.size w W ∧ n₀ ≤ W.heap.size
theorem blk_own {W W' : World} {row : Option Nat} {g : Nat} {cs : Array Value} {t : TypeId} (h : W.heap[g]? = some (.cells cs t (0, 0))) (hg : W.grownBy W' row) (hr : ∀ r, row = some r → ∃ o : Obj, W.heap[r]? = some o ∧ o.isCells = false) : W'.heap[g]? = some (.cells cs t (0, 0)) := by
  refine (hg.block g (Array.getElem?_eq_some_iff.1 h).1 (fun e => ?_)).trans h
  obtain ⟨o, ho, hc⟩ := hr g e.symm
  rw [h] at ho
  cases ho
  cases hc
theorem row_own {W W' : World} {row : Option Nat} {n₀ k : Nat} {e : TypeId} {v : Value} {xs : List Value} (h : W.ownsRow n₀ e 1 v k xs) (hg : W.grownBy W' row) (hr : ∀ r, row = some r → ∃ o : Obj, W.heap[r]? = some o ∧ o.isCells = false) : W'.ownsRow n₀ e 1 v k xs := by
  refine h.kept hg ?_
  rcases h.2 with ⟨rfl, _⟩ | ⟨g, cap, cur, rfl, _, hgb, _⟩
  · exact .inl rfl
  · refine .inr fun e' => ?_
    obtain ⟨o, ho, hc⟩ := hr g (by simpa [Value.ownBlock] using e'.symm)
    rw [hgb] at ho; cases ho; cases hc
theorem flipI_own (w : World) (n₀ g8 g4 B : Nat) (nt va : Int) (hB : w.heap.size ≤ B) : OwnFrom B (FlipI w n₀ g8 g4 nt va) := by
  rintro s W W' row ⟨⟨v, h1, h2⟩, h3, h4, h5⟩ hg hr
  have hr' : ∀ r, row = some r → ∃ o : Obj, W.heap[r]? = some o ∧ o.isCells = false := fun r e => (hr r e).2
  exact ⟨⟨v, blk_own h1 hg hr', row_own h2 hg hr'⟩, blk_own h3 hg hr', h4.grown hg h4.size (fun k e => Nat.le_trans hB (hr k e).1), Nat.le_trans h5 hg.size⟩
theorem row_ne {W : World} {n₀ k g : Nat} {e t : TypeId} {v : Value} {xs : List Value} {cs : Array Value} (h : W.ownsRow n₀ e 1 v k xs) (hb : W.heap[g]? = some (.cells cs t (0, 0))) (hte : t ≠ e) : some g ≠ v.ownBlock := by
  rcases h.2 with ⟨rfl, _⟩ | ⟨g', cap, cur, rfl, _, hgb, _⟩
  · simp [Value.ownBlock]
  · intro e'
    obtain rfl : g = g' := by simpa [Value.ownBlock] using e'
    rw [hb] at hgb
    cases hgb
    exact hte rfl
theorem row_ge {W : World} {n₀ k : Nat} {e : TypeId} {v : Value} {xs : List Value} (h : W.ownsRow n₀ e 1 v k xs) : ∀ j, v.ownBlock = some j → n₀ ≤ j := by
  intro j ej
  rcases h.2 with ⟨rfl, _⟩ | ⟨g', cap, cur, rfl, hb, _⟩
  · simp [Value.ownBlock] at ej
  · obtain rfl : g' = j := by simpa [Value.ownBlock] using ej
    exact hb
theorem grownBy_cell (W : World) (p : Addr) (v : Value) : W.grownBy (W.setCell p v) (some p.block) :=
  ⟨rfl, rfl, rfl, (KeepsWalks.setCell W _ v).size, fun k _ hk => Below.heap_setCell _ _ _ k (fun e => hk (by rw [e]))⟩
/-- One round: the appended row, stored into the curve's box. -/
theorem flipI_app {w : World} {n₀ g8 g4 : Nat} {nt va : Int} {pre : List (Int × Int)} {x : Int × Int} {W w1 : World} {v v' : Value} {tmp : Obj} (hw : w.heap.size ≤ n₀) (hn : n₀ ≤ W.heap.size) (h8 : w.heap.size ≤ g8) (h84 : g4 ≠ g8)
    (h1 : W.heap[g8]? = some (.cells #[.int .i64 nt, .int .i64 va, v] 24 (0, 0))) (h2 : W.ownsRow n₀ 3 1 v pre.length (encs (Value.int .i64) (pre.map fun x => wrap64 (-x.2)))) (h3 : W.heap[g4]? = some (.cells #[.int .i64 0, .int .i64 0, .slice none 0 0] 24 (0, 0))) (h4 : Below w.heap.size w W)
    (hown : w1.ownsRow n₀ 3 1 v' (pre.length + 1) (encs (Value.int .i64) (pre.map fun x => wrap64 (-x.2)) ++ [.int .i64 (wrap64 (-x.2))])) (hg : (W.alloc tmp).grownBy w1 v.ownBlock) :
    w1.heap[g8]? = some (.cells #[.int .i64 nt, .int .i64 va, v] 24 (0, 0)) ∧ KeepsOthers W (w1.setCell ⟨g8, 2, none⟩ v') ∧ Kq n₀ g8 W (w1.setCell ⟨g8, 2, none⟩ v') ∧ FlipI w n₀ g8 g4 nt va (pre ++ [x]) (w1.setCell ⟨g8, 2, none⟩ v') := by
  have l8 := (Array.getElem?_eq_some_iff.1 h1).1
  have l4 := (Array.getElem?_eq_some_iff.1 h3).1
  have a8 : (W.alloc tmp).heap[g8]? = some (.cells #[.int .i64 nt, .int .i64 va, v] 24 (0, 0)) := (Below.heap_alloc _ _ _ l8).trans h1
  have a4 : (W.alloc tmp).heap[g4]? = some (.cells #[.int .i64 0, .int .i64 0, .slice none 0 0] 24 (0, 0)) := (Below.heap_alloc _ _ _ l4).trans h3
  have b8 : w1.heap[g8]? = some (.cells #[.int .i64 nt, .int .i64 va, v] 24 (0, 0)) := (hg.block g8 (Array.getElem?_eq_some_iff.1 a8).1 (row_ne h2 h1 (by decide))).trans a8
  have b4 : w1.heap[g4]? = some (.cells #[.int .i64 0, .int .i64 0, .slice none 0 0] 24 (0, 0)) := (hg.block g4 (Array.getElem?_eq_some_iff.1 a4).1 (row_ne h2 h3 (by decide))).trans a4
  have hal : Below w.heap.size w (W.alloc tmp) := below_alloc h4 tmp
  have hb1 : Below w.heap.size w w1 := hal.grown hg hal.size (fun k e => Nat.le_trans hw (row_ge h2 k e))
  refine ⟨b8, ?_, ?_, ⟨_, blk_put b8 2 v' rfl, ?_⟩, blk_far (p := ⟨g8, 2, none⟩) b4 h84 _, below_set hb1 h8, ?_⟩
  · refine ((KeepsOthers.alloc W tmp).trans (KeepsOthers.of_grownBy hg fun j o ej hj => ?_)).trans (KeepsOthers.setCell _ _ _)
    rcases (h2.alloc tmp).2 with ⟨rfl, _⟩ | ⟨g, cap, cur, rfl, _, hgb, _⟩
    · simp [Value.ownBlock] at ej
    · obtain rfl : g = j := by simpa [Value.ownBlock] using ej
      rw [hgb] at hj; cases hj; rfl
  · intro k hk hk8
    refine (Below.heap_setCell _ _ _ k (fun e => hk8 e)).trans ((hg.block k (by simp; omega) (fun e => ?_)).trans (Below.heap_alloc _ _ k (by omega)))
    have := row_ge h2 k e.symm
    omega
  · have e1 : encs (Value.int .i64) ((pre ++ [x]).map fun x => wrap64 (-x.2)) = encs (Value.int .i64) (pre.map fun x => wrap64 (-x.2)) ++ [.int .i64 (wrap64 (-x.2))] := by simp [encs]
    rw [e1, List.length_append]
    exact hown.kept (grownBy_cell w1 ⟨g8, 2, none⟩ v') (.inr fun e => row_ne hown b8 (by decide) e.symm)
  · have s1 := hg.size
    have s2 := (grownBy_cell w1 ⟨g8, 2, none⟩ v').size
    rw [World.size_alloc] at s1
    omega
theorem flip_cells {w W : World} {A : Option Addr} {l : List Int} (h : Kd.C (Kd.int .i64) w A l.length l) (hB : Below w.heap.size w W) : 0 < l.length → ∃ ad, A = some ad ∧ ad.block < w.heap.size ∧ ∀ j, j < l.length → W.cell? (ad.add j) = some (.int .i64 (rd l (j : Int))) := by
  intro h0
  obtain ⟨ad, rfl, hc⟩ := Kd.at_int h 0 (by omega) (by omega)
  refine ⟨ad, rfl, ?_, fun j hj => ?_⟩
  · have := World.block_lt_of_cell? _ _ hc
    rwa [add_block] at this
  · obtain ⟨ad2, e, hc2⟩ := Kd.at_int h (j : Int) (by omega) (by omega)
    cases e
    rw [Int.toNat_natCast] at hc2
    exact (hB.cell (World.block_lt_of_cell? _ _ hc2)).trans hc2
/-- The return: the result stored, the rounds' block closed. -/
theorem flip_end {w W : World} {g D : Nat} {a b c v : Value} {x y : Int} {l : List Int} (HB : Below w.heap.size w W) (GE : w.heap.size ≤ g) (GD : w.heap.size ≤ D) (hgd : g ≠ D) (BK : W.heap[g]? = some (.cells #[a, b, c] 24 (0, 0))) (hK : W.heap[D]? = some (.deferred (some []))) (hR : Kd.R (Kd.int .i64) 3 W w.heap.size (fun k => k ≠ g ∧ k ≠ D) v l) :
    (((W.setCell ⟨g, 0, none⟩ (.int .i64 x)).setCell ⟨g, 1, none⟩ (.int .i64 y)).setCell ⟨g, 2, none⟩ v).heap[D]? = some (.deferred (some [])) ∧
    ((((W.setCell ⟨g, 0, none⟩ (.int .i64 x)).setCell ⟨g, 1, none⟩ (.int .i64 y)).setCell ⟨g, 2, none⟩ v).putObj D (.deferred none)).heap[g]? = some (.cells #[.int .i64 x, .int .i64 y, v] 24 (0, 0)) ∧
    Kd.R (Kd.int .i64) 3 ((((W.setCell ⟨g, 0, none⟩ (.int .i64 x)).setCell ⟨g, 1, none⟩ (.int .i64 y)).setCell ⟨g, 2, none⟩ v).putObj D (.deferred none)) w.heap.size (fun _ => True) v l ∧
    Below w.heap.size w ((((W.setCell ⟨g, 0, none⟩ (.int .i64 x)).setCell ⟨g, 1, none⟩ (.int .i64 y)).setCell ⟨g, 2, none⟩ v).putObj D (.deferred none)) := by
  have hb := below_set (j := 2) (v := v) (below_set (j := 1) (v := .int .i64 y) (below_set (j := 0) (v := .int .i64 x) HB GE) GE) GE
  have hr : Kd.R (Kd.int .i64) 3 (((W.setCell ⟨g, 0, none⟩ (.int .i64 x)).setCell ⟨g, 1, none⟩ (.int .i64 y)).setCell ⟨g, 2, none⟩ v) w.heap.size (fun k => k ≠ g ∧ k ≠ D) v l := Kd.R_far (p := ⟨g, 2, none⟩) (Kd.R_far (p := ⟨g, 1, none⟩) (Kd.R_far (p := ⟨g, 0, none⟩) hR (fun _ hk => hk.1) _) (fun _ hk => hk.1) _) (fun _ hk => hk.1) _
  have hg : (((W.setCell ⟨g, 0, none⟩ (.int .i64 x)).setCell ⟨g, 1, none⟩ (.int .i64 y)).setCell ⟨g, 2, none⟩ v).heap[g]? = some (.cells #[.int .i64 x, .int .i64 y, v] 24 (0, 0)) := blk_put (blk_put (blk_put BK 0 _ rfl) 1 _ rfl) 2 _ rfl
  have hd : (((W.setCell ⟨g, 0, none⟩ (.int .i64 x)).setCell ⟨g, 1, none⟩ (.int .i64 y)).setCell ⟨g, 2, none⟩ v).heap[D]? = some (.deferred (some [])) := (Below.heap_setCell _ _ _ D (fun e => hgd e.symm)).trans ((Below.heap_setCell _ _ _ D (fun e => hgd e.symm)).trans ((Below.heap_setCell _ _ _ D (fun e => hgd e.symm)).trans hK))
  generalize ((W.setCell ⟨g, 0, none⟩ (.int .i64 x)).setCell ⟨g, 1, none⟩ (.int .i64 y)).setCell ⟨g, 2, none⟩ v = Z at hb hr hg hd ⊢
  exact ⟨hd, (World.putObj_heap_other hgd).trans hg, Kd.R_mono (Kd.R_grown hr (grownBy_putObj' Z D _) (fun k hk e => by cases e; exact hk.2 rfl)) (fun _ _ => trivial), hb.grown (grownBy_putObj' Z D _) hb.size (fun k e => by cases e; exact GD)⟩
end Go.Proofs.Ytingjpcgehgiiaa.Pr
end
section
namespace Go.Proofs.Ytingjpcgehgiiaa.Pr
open Go.RowKit Go.Proofs.YtingjpcgehgiiaaW.PrintWords Go.Proofs.YtingjpcgehgiiaaW.PrintLast Go.Proofs.YtingjpcgehgiiaaW.PrintMore
attribute [local go_sem] max2_int min2_int max_two min_two max_three min_three max_four min_four   -- for this text's walks alone
set_option linter.unusedVariables false
set_option linter.unusedSimpArgs false
def curve_Move.j0 : Nat → Int → Int → Bool → Int → Int → List Int → Option (Int × Int × List Int × Int)
 | 0, _, _, _, _, _, _ => none
 | k + 1, x1, x2, x20, x552000, x552001, x552002 => if x20 = true then (some (0, 0, ([] : List Int), 2)) else ((clone_int.f x552002).bind fun t556 => ((curve_made.f (wrap64 (x552000 + x1)) (wrap64 (x552001 + x2)) t556).bind fun bt559 => (some (bt559.1, bt559.2.1, bt559.2.2.1, bt559.2.2.2))))
def curve_Move.f (k : Nat) (a0_0 : Int) (a0_1 : Int) (l0_2 : List Int) (a1 : Int) (a2 : Int) : Option (Int × Int × List Int × Int) := (curve_Valid.f a0_0 a0_1 l0_2).bind fun t553 => (if t553 = true then ((curve_within.f a1 1048576).bind fun t554 => (if t554 = true then ((curve_within.f a2 1099511627776).bind fun t555 => (curve_Move.j0 k a1 a2 (!t555) a0_0 a0_1 l0_2)) else (curve_Move.j0 k a1 a2 true a0_0 a0_1 l0_2))) else (curve_Move.j0 k a1 a2 true a0_0 a0_1 l0_2))
theorem curve_Move.mono_l : ∀ k, (∀ y0 y1 y2 y3 y4 y5, LeO (curve_Move.j0 k y0 y1 y2 y3 y4 y5) (curve_Move.j0 (k + 1) y0 y1 y2 y3 y4 y5))
 | 0 => fun _ _ _ _ _ _ r h => by simp [curve_Move.j0] at h
 | k + 1 => by
  have ih0 := curve_Move.mono_l k
  · intro y0 y1 y2 y3 y4 y5; unfold curve_Move.j0
    repeat' first
    | (with_reducible exact ih0 _ _ _ _ _ _)
    | (with_reducible exact LeO.refl _)
    | (with_reducible exact LeO.none _)
    | (with_reducible refine LeO.ite ?_ ?_)
    | (with_reducible refine LeO.bind ?_ (fun _ => ?_))
    | exact ih0 _ _ _ _ _ _
    | exact LeO.none _
    | refine LeO.ite ?_ ?_
    | refine LeO.bind ?_ (fun _ => ?_)
theorem curve_Move.mono : ∀ a0 a1 a2 a3 a4 k, LeO (curve_Move.f k a0 a1 a2 a3 a4) (curve_Move.f (k + 1) a0 a1 a2 a3 a4) := by
 intro a0 a1 a2 a3 a4 k; have ih0 := curve_Move.mono_l k; unfold curve_Move.f
 repeat' first
  | (with_reducible exact ih0 _ _ _ _ _ _)
  | (with_reducible exact LeO.refl _)
  | (with_reducible exact LeO.none _)
  | (with_reducible refine LeO.ite ?_ ?_)
  | (with_reducible refine LeO.bind ?_ (fun _ => ?_))
  | exact ih0 _ _ _ _ _ _
  | exact LeO.none _
  | refine LeO.ite ?_ ?_
  | refine LeO.bind ?_ (fun _ => ?_)
def curve_Move.T3 : Bool × List (List Nat × List Nat) := (true, [([], []), ([0], [0]), ([], []), ([1, 2], [1, 2]), ([], []), ([4], [4]), ([], []), ([5, 6], [5, 6]), ([], []), ([8], [8]), ([9], [9]), ([3, 7, 10], [3, 7, 10]), ([11, 10], [11]), ([12], [12]), ([12], [12]), ([13, 12, 0, 1, 2, 3, 4, 5, 6, 7, 8, 9, 10, 11, 12, 13, 14], [13]), ([14, 15, 0, 1, 2, 3, 4, 5, 6, 7, 8, 9, 10, 11, 12, 13, 14, 15], [14])])
def curve_Move.B3 : List Nat := [0, 1, 0, 7, 0, 16, 0, 112, 0, 256, 768, 2047, 4095, 8191, 8191, 32767, 65535]
theorem curve_Move.tab3 : rtab .any (opsOf Try.f45 3) = curve_Move.T3 := by kernel_rfl
theorem curve_Move.bits3 : waitsOk curve_Move.T3.2 curve_Move.B3 = true := by kernel_rfl
set_option maxHeartbeats 8000000 in
set_option maxRecDepth 100000 in
theorem curve_Move.calls (k : Nat) (a0_0 : Int) (a0_1 : Int) (A0_2 : Option Addr) (c0_2 : Nat) (l0_2 : List Int) (a1 : Int) (a2 : Int) (r1 : Int) (r2 : Int) (r3 : List Int) (r4 : Int) (w : World) (hr0_2 : Kd.C (Kd.int .i64) w A0_2 l0_2.length l0_2) (hc0_2 : l0_2.length ≤ c0_2) (h : curve_Move.f k a0_0 a0_1 l0_2 a1 a2 = some (r1, r2, r3, r4)) :
 Calls Try.prog 45 #[.agg #[.int .i64 a0_0, .int .i64 a0_1, .slice A0_2 l0_2.length c0_2], .int .i64 a1, .int .i64 a2] w fun e w' => ∃ v2_ : Value, e = .returned (.tuple #[.agg #[.int .i64 r1, .int .i64 r2, v2_], .int .i64 r4]) ∧ Kd.R (Kd.int .i64) 3 w' w.heap.size (fun _ => True) v2_ r3 ∧ Below w.heap.size w w' := by
 have hu24 := Try.underlying24; have HR0_2 := Aside0.mk hr0_2; have HC0_2 := Aside0.mk hc0_2; clear hr0_2 hc0_2; have HB := Aside0.mk (Below.refl w.heap.size w); have H : ((curve_Valid.f a0_0 a0_1 l0_2).bind fun t553 => (if t553 = true then ((curve_within.f a1 1048576).bind fun t554 => (if t554 = true then ((curve_within.f a2 1099511627776).bind fun t555 => (curve_Move.j0 k a1 a2 (!t555) a0_0 a0_1 l0_2)) else (curve_Move.j0 k a1 a2 true a0_0 a0_1 l0_2))) else (curve_Move.j0 k a1 a2 true a0_0 a0_1 l0_2))) = some (r1, r2, r3, r4) := h; clear h; have HC4 := Aside0.mk H; clear H; go_enter Try.func45, Try.ntmps45
 go_upto_region 1 with (first | ((with_reducible refine gate_dst (N := 3) rfl ?_); refine box_event ?hg (N := 3) ?hd (cs := #[.int .i64 a0_0, .int .i64 a0_1, .slice A0_2 l0_2.length c0_2]) (t := 24) ?hr ?_; (case hd => rfl); (case hg => rfl); (case hr => first | (go_simp; done) | (go_simp; rfl)); intro gb551 hg w5 hbox hb; have BK551 := Aside0.mk (hbox); have GW551 := Aside0.mk ((by rw [hg]; exact (below_size (nC HB)) : w.heap.size ≤ gb551)); have GE551 := Aside0.mk ((by rw [hg]; exact (below_size (nC HB)) : w.heap.size ≤ gb551)); replace HB := Aside0.mk (below_step (nC HB) hb); clear hb hbox hg) | ((with_reducible refine gate_dst (N := 6) rfl ?_); refine box_event ?hg (N := 6) ?hd (cs := #[.int .i64 0, .int .i64 0, .slice none 0 0]) (t := 24) ?hr ?_; (case hd => rfl); (case hg => rfl); (case hr => first | (go_simp; done) | (go_simp; rfl)); intro gb552 hg w6 hbox hb; have BK552 := Aside0.mk (hbox); have GW552 := Aside0.mk ((by rw [hg]; exact (below_size (nC HB)) : w.heap.size ≤ gb552)); have GE552 := Aside0.mk ((by rw [hg]; exact (below_size (nC HB)) : w.heap.size ≤ gb552)); replace HB := Aside0.mk (below_step (nC HB) hb); have NB551_552 := Aside0.mk ((by rw [hg]; exact Nat.ne_of_lt (blk_lt (nK BK551)) : gb551 ≠ gb552)); have NB552_551 := Aside0.mk ((by rw [hg]; exact Nat.ne_of_gt (blk_lt (nK BK551)) : gb552 ≠ gb551)); replace BK551 := Aside0.mk (nB BK551 hb); clear hb hbox hg))
 (try simp only [Act.put, zs1, zs2, zs3]); go_cut [20] (fun v20 wc => ∃ (kq : Nat) (x20_3 : Bool), v20 = .bool x20_3 ∧ Aside0 (curve_Move.j0 kq a1 a2 x20_3 a0_0 a0_1 l0_2 = some (r1, r2, r3, r4)) ∧ Aside0 (kq ≤ k) ∧ Aside0 (wc.heap[gb551]? = some (.cells #[.int .i64 a0_0, .int .i64 a0_1, (.slice A0_2 l0_2.length c0_2)] 24 (0, 0))) ∧ Aside0 (wc.heap[gb552]? = some (.cells #[.int .i64 0, .int .i64 0, (.slice none 0 0)] 24 (0, 0))) ∧ Aside0 (Below w.heap.size w wc))
 case first =>
  have H := HC4.out; clear HC4; replace H := Option.bind_eq_some_iff.mp H; obtain ⟨t553, A70, H⟩ := H; replace H : (if t553 = true then ((curve_within.f a1 1048576).bind fun t554 => (if t554 = true then ((curve_within.f a2 1099511627776).bind fun t555 => (curve_Move.j0 k a1 a2 (!t555) a0_0 a0_1 l0_2)) else (curve_Move.j0 k a1 a2 true a0_0 a0_1 l0_2))) else (curve_Move.j0 k a1 a2 true a0_0 a0_1 l0_2)) = some (r1, r2, r3, r4) := H; have A7 := Aside0.mk A70; clear A70
  by_cases c8 : t553 = true
  · subst c8; replace H : ((curve_within.f a1 1048576).bind fun t554 => (if t554 = true then ((curve_within.f a2 1099511627776).bind fun t555 => (curve_Move.j0 k a1 a2 (!t555) a0_0 a0_1 l0_2)) else (curve_Move.j0 k a1 a2 true a0_0 a0_1 l0_2))) = some (r1, r2, r3, r4) := by rw [if_pos rfl] at H; exact H
    replace H := Option.bind_eq_some_iff.mp H; obtain ⟨t554, A90, H⟩ := H; replace H : (if t554 = true then ((curve_within.f a2 1099511627776).bind fun t555 => (curve_Move.j0 k a1 a2 (!t555) a0_0 a0_1 l0_2)) else (curve_Move.j0 k a1 a2 true a0_0 a0_1 l0_2)) = some (r1, r2, r3, r4) := H; have A9 := Aside0.mk A90; clear A90
    by_cases c10 : t554 = true
    · subst c10; replace H : ((curve_within.f a2 1099511627776).bind fun t555 => (curve_Move.j0 k a1 a2 (!t555) a0_0 a0_1 l0_2)) = some (r1, r2, r3, r4) := by rw [if_pos rfl] at H; exact H
      replace H := Option.bind_eq_some_iff.mp H; obtain ⟨t555, A110, H⟩ := H; replace H : (curve_Move.j0 k a1 a2 (!t555) a0_0 a0_1 l0_2) = some (r1, r2, r3, r4) := H; have A11 := Aside0.mk A110; clear A110; have H' := Aside0.mk H; clear H; have hnb12 := NB551_552.out; have hnc12 := NB552_551.out; obtain ⟨hcz13_0, hcz13_1, hcz13_2, hfz13_0, hfz13_1, hfz13_2⟩ := cz3 BK551; go_wp2_with (first | ((with_reducible refine gate_callee (f := 16) rfl ?_); refine gL (some 9) Try.func16 #[.agg #[.int .i64 a0_0, .int .i64 a0_1, .slice A0_2 l0_2.length c0_2]] ?_; (with_reducible refine (curve_Valid.calls a0_0 a0_1 _ _ l0_2 true _ ?side1 ?side2 A7.out).mono ?_); (case side1 => exact nS HR0_2 HB); (case side2 => exact HC0_2.out); rintro e w14 ⟨rfl, hb⟩; refine ⟨_, rfl, ?_⟩; replace BK551 := Aside0.mk (nB BK551 hb); replace BK552 := Aside0.mk (nB BK552 hb); replace HB := Aside0.mk (below_step (nC HB) hb); (try clear hb); (try clear hb2); (try clear hk); (try clear hi)) | (go_at_call 52; (with_reducible refine (curve_within.calls a1 1048576 true _ A9.out).mono ?_); rintro e w' ⟨rfl, ⟨nd, rfl⟩⟩) | (go_at_call 52; (with_reducible refine (curve_within.calls a2 1099511627776 t555 _ A11.out).mono ?_); rintro e w' ⟨rfl, ⟨nd, rfl⟩⟩))
      go_meet
      case rel => exact ⟨_, (!t555), (by first | rfl | (simp; done) | (simp [*]; done)), H', ⟨by first | omega | exact Nat.le_refl _⟩, ⟨nK BK551⟩, ⟨nK BK552⟩, ⟨nC HB⟩⟩
    · replace c10 := Bool.eq_false_iff.mpr c10; subst c10; replace H : (curve_Move.j0 k a1 a2 true a0_0 a0_1 l0_2) = some (r1, r2, r3, r4) := by rw [if_neg (show ¬ (false = true) by decide)] at H; exact H
      have H' := Aside0.mk H; clear H; have hnb15 := NB551_552.out; have hnc15 := NB552_551.out; obtain ⟨hcz16_0, hcz16_1, hcz16_2, hfz16_0, hfz16_1, hfz16_2⟩ := cz3 BK551; go_wp2_with (first | ((with_reducible refine gate_callee (f := 16) rfl ?_); refine gL (some 9) Try.func16 #[.agg #[.int .i64 a0_0, .int .i64 a0_1, .slice A0_2 l0_2.length c0_2]] ?_; (with_reducible refine (curve_Valid.calls a0_0 a0_1 _ _ l0_2 true _ ?side1 ?side2 A7.out).mono ?_); (case side1 => exact nS HR0_2 HB); (case side2 => exact HC0_2.out); rintro e w17 ⟨rfl, hb⟩; refine ⟨_, rfl, ?_⟩; replace BK551 := Aside0.mk (nB BK551 hb); replace BK552 := Aside0.mk (nB BK552 hb); replace HB := Aside0.mk (below_step (nC HB) hb); (try clear hb); (try clear hb2); (try clear hk); (try clear hi)) | (go_at_call 52; (with_reducible refine (curve_within.calls a1 1048576 false _ A9.out).mono ?_); rintro e w' ⟨rfl, ⟨nd, rfl⟩⟩))
      go_meet
      case rel => exact ⟨_, (true), (by first | rfl | (simp; done) | (simp [*]; done)), H', ⟨by first | omega | exact Nat.le_refl _⟩, ⟨nK BK551⟩, ⟨nK BK552⟩, ⟨nC HB⟩⟩
  · replace c8 := Bool.eq_false_iff.mpr c8; subst c8; replace H : (curve_Move.j0 k a1 a2 true a0_0 a0_1 l0_2) = some (r1, r2, r3, r4) := by rw [if_neg (show ¬ (false = true) by decide)] at H; exact H
    have H' := Aside0.mk H; clear H; have hnb18 := NB551_552.out; have hnc18 := NB552_551.out; obtain ⟨hcz19_0, hcz19_1, hcz19_2, hfz19_0, hfz19_1, hfz19_2⟩ := cz3 BK551; go_wp2_with (first | ((with_reducible refine gate_callee (f := 16) rfl ?_); refine gL (some 9) Try.func16 #[.agg #[.int .i64 a0_0, .int .i64 a0_1, .slice A0_2 l0_2.length c0_2]] ?_; (with_reducible refine (curve_Valid.calls a0_0 a0_1 _ _ l0_2 false _ ?side1 ?side2 A7.out).mono ?_); (case side1 => exact nS HR0_2 HB); (case side2 => exact HC0_2.out); rintro e w20 ⟨rfl, hb⟩; refine ⟨_, rfl, ?_⟩; replace BK551 := Aside0.mk (nB BK551 hb); replace BK552 := Aside0.mk (nB BK552 hb); replace HB := Aside0.mk (below_step (nC HB) hb); (try clear hb); (try clear hb2); (try clear hk); (try clear hi)))
    go_meet
    case rel => exact ⟨_, (true), (by first | rfl | (simp; done) | (simp [*]; done)), H', ⟨by first | omega | exact Nat.le_refl _⟩, ⟨nK BK551⟩, ⟨nK BK552⟩, ⟨nC HB⟩⟩
 case rest =>
  clear HC4; obtain ⟨kq, x20_3, rfl, HA, HJ3, BK551, BK552, HB⟩ := hcut
  cases kq with
  | zero => exact absurd HA.out (by simp [curve_Move.j0])
  | succ kj3 =>
   have H := HA.out; clear HA; simp only [curve_Move.j0] at H
   by_cases c21 : x20_3 = true
   · subst c21; replace H : (some (0, 0, ([] : List Int), 2)) = some (r1, r2, r3, r4) := by rw [if_pos rfl] at H; exact H
     simp only [Option.some.injEq, Prod.mk.injEq] at H; obtain ⟨rfl, rfl, rfl, rfl⟩ := H; have hnb22 := NB552_551.out; have hnc22 := NB551_552.out; obtain ⟨hcz23_0, hcz23_1, hcz23_2, hfz23_0, hfz23_1, hfz23_2⟩ := cz3 BK552; go_wp2
     refine bodyPost_ret (results_ct rfl _ _ gb552 24 #[.int .i64 0, .int .i64 0, .slice none 0 0] (0, 0) _ rfl (by (with_reducible repeat (first | refine blk_drewN ?_ _ | refine blk_drew ?_ | refine blk_alloc ?_ _)); refine blk_put (cs := #[.int .i64 0, .int .i64 0, .slice none 0 0]) ?_ 2 _ rfl; (with_reducible repeat (first | refine blk_drewN ?_ _ | refine blk_drew ?_ | refine blk_alloc ?_ _)); refine blk_put (cs := #[.int .i64 0, .int .i64 0, .slice none 0 0]) ?_ 1 _ rfl; (with_reducible repeat (first | refine blk_drewN ?_ _ | refine blk_drew ?_ | refine blk_alloc ?_ _)); refine blk_put (cs := #[.int .i64 0, .int .i64 0, .slice none 0 0]) ?_ 0 _ rfl; (with_reducible repeat (first | refine blk_drewN ?_ _ | refine blk_drew ?_ | refine blk_alloc ?_ _)); exact BK552.out) Try.underlying24 rfl (by kernel_rfl)) rfl ?_; exact ⟨_, by first | rfl | (simp [errW_none, errW_some] <;> rfl) | (simp [*, errW_none, errW_some] <;> rfl), by first | exact Kd.R_nil _ _ _ _ _ | exact Kd.N_nil _ _ _ _ _ | exact Kd.V_nil _ _ _ _ _ | exact Kd.Q_nil _ _ _ _ _ | exact Kd.S_nil _ _ _ _ _, nC HB⟩
   · replace c21 := Bool.eq_false_iff.mpr c21; subst c21; replace H : ((clone_int.f l0_2).bind fun t556 => ((curve_made.f (wrap64 (a0_0 + a1)) (wrap64 (a0_1 + a2)) t556).bind fun bt559 => (some (bt559.1, bt559.2.1, bt559.2.2.1, bt559.2.2.2)))) = some (r1, r2, r3, r4) := by rw [if_neg (show ¬ (false = true) by decide)] at H; exact H
     replace H := Option.bind_eq_some_iff.mp H; obtain ⟨t556, A240, H⟩ := H; replace H : ((curve_made.f (wrap64 (a0_0 + a1)) (wrap64 (a0_1 + a2)) t556).bind fun bt559 => (some (bt559.1, bt559.2.1, bt559.2.2.1, bt559.2.2.2))) = some (r1, r2, r3, r4) := H; have A24 := Aside0.mk A240; clear A240; replace H := Option.bind_eq_some_iff.mp H; obtain ⟨⟨t559, t560, t561, t564⟩, A250, H⟩ := H; replace H : (some (t559, t560, t561, t564)) = some (r1, r2, r3, r4) := H; have A25 := Aside0.mk A250; clear A250; simp only [Option.some.injEq, Prod.mk.injEq] at H; obtain ⟨rfl, rfl, rfl, rfl⟩ := H; try go_wp2
     replace BK551 := Aside0.mk (blk_drew BK551.out); replace BK552 := Aside0.mk (blk_drew BK552.out); replace HB := Aside0.mk (below_drew1 HB.out); refine start_ (n := 17) (S := fun w' => w'.cell? ⟨gb551, 0, none⟩ = some (.int .i64 a0_0) ∧ w'.cell? ⟨gb551, 1, none⟩ = some (.int .i64 a0_1) ∧ w'.cell? ⟨gb551, 2, none⟩ = some (.slice A0_2 l0_2.length c0_2)) (ds := []) #[false, false, false, false, false, false, false, false, false, false, false, false, false, false, false, false, false] (by kernel_rfl) rfl rfl ⟨(blk_cell BK551.out 0).trans rfl, (blk_cell BK551.out 1).trans rfl, (blk_cell BK551.out 2).trans rfl⟩ (fun hHeld => ?_); refine with_tabW curve_Move.tab3 curve_Move.bits3 (fun HT_ HW_ => ?_); generalize wc.drew = w26 at BK551 BK552 HB hHeld ⊢; refine pure_ (i := 0) (N := some 22) (v := ?_) (a' := ?_) #[true, false, false, false, false, false, false, false, false, false, false, false, false, false, false, false, false] rfl rfl (any_of HT_.out (by kernel_rfl)) (fun _ _ _ h => h) (Or.inl ⟨by rfl, ?_⟩) ?_ ?_; rotate_left
     · intro w'; go_simp
       with_reducible rfl
     rotate_left
     · simp only [Act.put, zs1, zs2, zs3, i64_w, i32_w]; rfl
     refine pure_ (i := 2) (N := some 24) (v := ?_) (a' := ?_) #[true, false, true, false, false, false, false, false, false, false, false, false, false, false, false, false, false] rfl rfl (any_of HT_.out (by kernel_rfl)) (fun _ _ _ h => h) (Or.inl ⟨by rfl, ?_⟩) ?_ ?_; rotate_left
     · intro w'; go_simp
       with_reducible rfl
     rotate_left
     · simp only [Act.put, zs1, zs2, zs3, i64_w, i32_w]; rfl
     refine pure_ (i := 4) (N := some 26) (v := ?_) (a' := ?_) #[true, false, true, false, true, false, false, false, false, false, false, false, false, false, false, false, false] rfl rfl (any_of HT_.out (by kernel_rfl)) (fun _ _ _ h => h) (Or.inl ⟨by rfl, ?_⟩) ?_ ?_; rotate_left
     · intro w'; go_simp
       with_reducible rfl
     rotate_left
     · simp only [Act.put, zs1, zs2, zs3, i64_w, i32_w]; rfl
     refine pure_ (i := 6) (N := some 28) (v := ?_) (a' := ?_) #[true, false, true, false, true, false, true, false, false, false, false, false, false, false, false, false, false] rfl rfl (any_of HT_.out (by kernel_rfl)) (fun _ _ _ h => h) (Or.inl ⟨by rfl, ?_⟩) ?_ ?_; rotate_left
     · intro w'; go_simp
       with_reducible rfl
     rotate_left
     · simp only [Act.put, zs1, zs2, zs3, i64_w, i32_w]; rfl
     refine pure_ (i := 8) (N := some 30) (v := ?_) (a' := ?_) #[true, false, true, false, true, false, true, false, true, false, false, false, false, false, false, false, false] rfl rfl (any_of HT_.out (by kernel_rfl)) (fun _ _ _ h => h) (Or.inl ⟨by rfl, ?_⟩) ?_ ?_; rotate_left
     · intro w'; go_simp
       with_reducible rfl
     rotate_left
     · simp only [Act.put, zs1, zs2, zs3, i64_w, i32_w]; rfl
     refine take_ (i := 1) (N := some 23) (v := ?_) (a' := ?_) #[true, true, true, false, true, false, true, false, true, false, false, false, false, false, false, false, false] rfl rfl (take_ofW HT_.out HW_.out (by kernel_rfl)) (fun _ _ _ h => h) (Or.inl ⟨by rfl, ?_⟩) hHeld ?_ ?_; rotate_left
     · rintro w' ⟨s0, s1, s2⟩; go_simp
       with_reducible rfl
     rotate_left
     · simp only [Act.put, zs1, zs2, zs3, i64_w, i32_w]; rfl
     refine pure_ (i := 3) (N := some 25) (v := ?_) (a' := ?_) #[true, true, true, true, true, false, true, false, true, false, false, false, false, false, false, false, false] rfl rfl (any_of HT_.out (by kernel_rfl)) (fun _ _ _ h => h) (Or.inl ⟨by rfl, ?_⟩) ?_ ?_; rotate_left
     · intro w'; go_simp
       with_reducible rfl
     rotate_left
     · simp only [Act.put, zs1, zs2, zs3, i64_w, i32_w]; rfl
     refine take_ (i := 5) (N := some 27) (v := ?_) (a' := ?_) #[true, true, true, true, true, true, true, false, true, false, false, false, false, false, false, false, false] rfl rfl (take_ofW HT_.out HW_.out (by kernel_rfl)) (fun _ _ _ h => h) (Or.inl ⟨by rfl, ?_⟩) hHeld ?_ ?_; rotate_left
     · rintro w' ⟨s0, s1, s2⟩; go_simp
       with_reducible rfl
     rotate_left
     · simp only [Act.put, zs1, zs2, zs3, i64_w, i32_w]; rfl
     refine pure_ (i := 7) (N := some 29) (v := ?_) (a' := ?_) #[true, true, true, true, true, true, true, true, true, false, false, false, false, false, false, false, false] rfl rfl (any_of HT_.out (by kernel_rfl)) (fun _ _ _ h => h) (Or.inl ⟨by rfl, ?_⟩) ?_ ?_; rotate_left
     · intro w'; go_simp
       with_reducible rfl
     rotate_left
     · simp only [Act.put, zs1, zs2, zs3, i64_w, i32_w]; rfl
     refine take_ (i := 9) (N := some 31) (v := ?_) (a' := ?_) #[true, true, true, true, true, true, true, true, true, true, false, false, false, false, false, false, false] rfl rfl (take_ofW HT_.out HW_.out (by kernel_rfl)) (fun _ _ _ h => h) (Or.inl ⟨by rfl, ?_⟩) hHeld ?_ ?_; rotate_left
     · rintro w' ⟨s0, s1, s2⟩; go_simp
       with_reducible rfl
     rotate_left
     · simp only [Act.put, zs1, zs2, zs3, i64_w, i32_w]; rfl
     refine one_ (i := 10) (N := some 32) #[true, true, true, true, true, true, true, true, true, true, true, false, false, false, false, false, false] rfl rfl (one_of HT_.out (by kernel_rfl)) (by decide) (fun K hK => ?_); refine gO Try.func78 #[.slice A0_2 l0_2.length c0_2] ?_
     with_reducible refine (clone_int.calls _ _ l0_2 t556 _ ?side1 ?side2 A24.out).mono ?_
     (case side1 => exact nS HR0_2 HB); (case side2 => exact HC0_2.out); rintro e w27 ⟨v557, rfl, ho0, hb⟩; refine ⟨_, rfl, ?_⟩; have HO558 := Aside0.mk (Kd.R_lower ho0 (below_size (nC HB))); replace BK551 := Aside0.mk (nB BK551 hb); replace BK552 := Aside0.mk (nB BK552 hb); replace HB := Aside0.mk (below_step (nC HB) hb); (try clear hb); (try clear hb2); (try clear hk); (try clear hi); (try clear ho0); obtain ⟨Ao28, co28, eo28⟩ := Kd.R_slice HO558.out; (first | subst eo28 | (injection eo28 with f1_ f2_ f3_; have f4_ := f1_.symm; have f5_ := f3_.symm; clear f1_ f2_ f3_; subst f4_; subst f5_)); refine hK.out _ _ ⟨(blk_cell BK551.out 0).trans rfl, (blk_cell BK551.out 1).trans rfl, (blk_cell BK551.out 2).trans rfl⟩ (fun hHeld => ?_); clear hK K; refine norm_ (a' := ?_) ?_ ?_; rotate_left
     · show Act.put _ (some 32) _ = _; simp only [Act.put, zs1, zs2, zs3, i64_w, i32_w]; rfl
     refine pure_ (i := 11) (N := some 33) (v := ?_) (a' := ?_) #[true, true, true, true, true, true, true, true, true, true, true, true, false, false, false, false, false] rfl rfl (any_of HT_.out (by kernel_rfl)) (fun _ _ _ h => h) (Or.inl ⟨by rfl, ?_⟩) ?_ ?_; rotate_left
     · intro w'; go_simp
       with_reducible rfl
     rotate_left
     · simp only [Act.put, zs1, zs2, zs3, i64_w, i32_w]; rfl
     refine one_ (i := 12) (N := some 34) #[true, true, true, true, true, true, true, true, true, true, true, true, true, false, false, false, false] rfl rfl (one_of HT_.out (by kernel_rfl)) (by decide) (fun K hK => ?_); refine gO Try.func51 #[.agg #[.int .i64 (wrap64 (a0_0 + a1)), .int .i64 (wrap64 (a0_1 + a2)), .slice Ao28 t556.length co28]] ?_
     with_reducible refine (curve_made.calls (wrap64 (a0_0 + a1)) (wrap64 (a0_1 + a2)) (fun k_ => some k_ = (.slice Ao28 t556.length co28 : Value).ownBlock) (.slice Ao28 t556.length co28) t556 t559 t560 t561 t564 w _ ?side1 ?side2 A25.out).mono ?_
     (case side1 => repeat (first | (with_reducible first | exact HB.out | apply below_alloc | apply pw_below_drewN | apply below_drew1 | refine below_set ?_ GE551.out | refine below_set ?_ GE552.out) | exact HB.out)); (case side2 => exact Kd.R_tight rfl HO558.out); rintro e w29 ⟨v562, rfl, ho0, hb, hkp⟩; refine ⟨_, rfl, ?_⟩; replace BK551 := Aside0.mk (blk_kept (nK BK551) hkp (fun hs_ => (fun e_ => (Kd.R_ne HO558.out BK551.out (by decide)) e_) hs_)); replace BK552 := Aside0.mk (blk_kept (nK BK552) hkp (fun hs_ => (fun e_ => (Kd.R_ne HO558.out BK552.out (by decide)) e_) hs_)); have HO563 := Aside0.mk (Kd.R_mono (ok' := fun k_ => True) ho0 (fun k_ hk_ => trivial)); replace HB := Aside0.mk (hb); clear HO558; (try clear hb); (try clear hkp); (try clear ho0); obtain ⟨Ao32, co32, eo32⟩ := Kd.R_slice HO563.out; (first | subst eo32 | (injection eo32 with f1_ f2_ f3_; have f4_ := f1_.symm; have f5_ := f3_.symm; clear f1_ f2_ f3_; subst f4_; subst f5_)); refine hK.out _ _ ⟨(blk_cell BK551.out 0).trans rfl, (blk_cell BK551.out 1).trans rfl, (blk_cell BK551.out 2).trans rfl⟩ (fun hHeld => ?_); clear hK K; refine norm_ (a' := ?_) ?_ ?_; rotate_left
     · show Act.put _ (some 34) _ = _; simp only [Act.put, zs1, zs2, zs3, i64_w, i32_w]; rfl
     refine pure_ (i := 13) (N := some 35) (v := ?_) (a' := ?_) #[true, true, true, true, true, true, true, true, true, true, true, true, true, true, false, false, false] rfl rfl (any_of HT_.out (by kernel_rfl)) (fun _ _ _ h => h) (Or.inl ⟨by rfl, ?_⟩) ?_ ?_; rotate_left
     · intro w'; go_simp
       with_reducible rfl
     rotate_left
     · simp only [Act.put, zs1, zs2, zs3, i64_w, i32_w]; rfl
     refine pure_ (i := 14) (N := some 36) (v := ?_) (a' := ?_) #[true, true, true, true, true, true, true, true, true, true, true, true, true, true, true, false, false] rfl rfl (any_of HT_.out (by kernel_rfl)) (fun _ _ _ h => h) (Or.inl ⟨by rfl, ?_⟩) ?_ ?_; rotate_left
     · intro w'; go_simp
       with_reducible rfl
     rotate_left
     · simp only [Act.put, zs1, zs2, zs3, i64_w, i32_w]; rfl
     refine one_ (i := 15) (N := none) #[true, true, true, true, true, true, true, true, true, true, true, true, true, true, true, true, false] rfl rfl (one_of HT_.out (by kernel_rfl)) (by decide) (fun K hK => ?_); have hs30 : w29.cell? ⟨gb552, 0, none⟩ = some (.int .i64 0) := (blk_cell BK552.out 0).trans rfl; have hfs30 := blk_frozen BK552.out 0; have hns30_0 := NB551_552.out; have hms30_0 := NB552_551.out; have hs31 : w29.cell? ⟨gb552, 1, none⟩ = some (.int .i64 0) := (blk_cell BK552.out 1).trans rfl; have hfs31 := blk_frozen BK552.out 1; have hns31_0 := NB551_552.out; have hms31_0 := NB552_551.out; have hs33 : w29.cell? ⟨gb552, 2, none⟩ = some (.slice none 0 0) := (blk_cell BK552.out 2).trans rfl; have hfs33 := blk_frozen BK552.out 2; have hns33_0 := NB551_552.out; have hms33_0 := NB552_551.out; refine skip_ (w1 := ?_) (by rfl) rfl ?_ ?_; rotate_left
     · go_simp
       rfl
     refine hK.out _ _ ⟨((cell_far (p := ⟨gb552, _, none⟩) NB551_552.out _).trans (((cell_far (p := ⟨gb552, _, none⟩) NB551_552.out _).trans (((cell_far (p := ⟨gb552, _, none⟩) NB551_552.out _).trans (hHeld.1)))))), ((cell_far (p := ⟨gb552, _, none⟩) NB551_552.out _).trans (((cell_far (p := ⟨gb552, _, none⟩) NB551_552.out _).trans (((cell_far (p := ⟨gb552, _, none⟩) NB551_552.out _).trans (hHeld.2.1)))))), ((cell_far (p := ⟨gb552, _, none⟩) NB551_552.out _).trans (((cell_far (p := ⟨gb552, _, none⟩) NB551_552.out _).trans (((cell_far (p := ⟨gb552, _, none⟩) NB551_552.out _).trans (hHeld.2.2))))))⟩ (fun hHeld => ?_); clear hK K; refine pure_ (i := 16) (N := some 7) (v := ?_) (a' := ?_) #[true, true, true, true, true, true, true, true, true, true, true, true, true, true, true, true, true] rfl rfl (any_of HT_.out (by kernel_rfl)) (fun _ _ _ h => h) (Or.inl ⟨by rfl, ?_⟩) ?_ ?_; rotate_left
     · intro w'; go_simp
       with_reducible rfl
     rotate_left
     · simp only [Act.put, zs1, zs2, zs3, i64_w, i32_w]; rfl
     refine done_ (done_of HT_.out (by kernel_rfl)) ?_; try go_wp2
     refine bodyPost_ret (results_ct rfl _ _ gb552 24 #[.int .i64 t559, .int .i64 t560, .slice Ao32 t561.length co32] (0, 0) _ rfl (by (with_reducible repeat (first | refine blk_drewN ?_ _ | refine blk_drew ?_ | refine blk_alloc ?_ _)); refine blk_put (cs := #[.int .i64 t559, .int .i64 t560, .slice none 0 0]) ?_ 2 _ rfl; (with_reducible repeat (first | refine blk_drewN ?_ _ | refine blk_drew ?_ | refine blk_alloc ?_ _)); refine blk_put (cs := #[.int .i64 t559, .int .i64 0, .slice none 0 0]) ?_ 1 _ rfl; (with_reducible repeat (first | refine blk_drewN ?_ _ | refine blk_drew ?_ | refine blk_alloc ?_ _)); refine blk_put (cs := #[.int .i64 0, .int .i64 0, .slice none 0 0]) ?_ 0 _ rfl; (with_reducible repeat (first | refine blk_drewN ?_ _ | refine blk_drew ?_ | refine blk_alloc ?_ _)); exact BK552.out) Try.underlying24 rfl (by kernel_rfl)) rfl ?_; exact ⟨_, by first | rfl | (simp [errW_none, errW_some] <;> rfl) | (simp [*, errW_none, errW_some] <;> rfl), by (with_reducible repeat (first | apply Kd.R_alloc | apply Kd.R_drewN | apply Kd.R_drew)); exact Kd.R_mono (Kd.R_far (p := ⟨gb552, 2, none⟩) (Kd.R_far (p := ⟨gb552, 1, none⟩) (Kd.R_far (p := ⟨gb552, 0, none⟩) (Kd.R_types HO563.out BK552.out (by decide)) (fun _ hk => hk.2) (.int .i64 t559)) (fun _ hk => hk.2) (.int .i64 t560)) (fun _ hk => hk.2) (.slice Ao32 t561.length co32)) (fun _ hk => trivial), nC HB⟩
end Go.Proofs.Ytingjpcgehgiiaa.Pr
end
section
namespace Go.Proofs.Ytingjpcgehgiiaa.Pr
open Go.RowKit Go.Proofs.YtingjpcgehgiiaaW.PrintWords Go.Proofs.YtingjpcgehgiiaaW.PrintLast Go.Proofs.YtingjpcgehgiiaaW.PrintMore
attribute [local go_sem] max2_int min2_int max_two min_two max_three min_three max_four min_four   -- for this text's walks alone
set_option linter.unusedVariables false
set_option linter.unusedSimpArgs false
def curve_Part.f (a0_0 : Int) (a0_1 : Int) (l0_2 : List Int) (a1 : Int) (a2 : Int) : Option (Int × Int × List Int × Int) := (curve_Valid.f a0_0 a0_1 l0_2).bind fun t567 => (if t567 = true then ((curve_to.f a0_0 a0_1 l0_2).bind fun t568 => (if (mx a1 a0_0) > (mn a2 t568) then (some (0, 0, ([] : List Int), 6)) else ((curve_part.f a0_0 a0_1 l0_2 (mx a1 a0_0) (mn a2 t568)).bind fun bt569 => ((curve_made.f bt569.1 bt569.2.1 bt569.2.2).bind fun bt574 => (some (bt574.1, bt574.2.1, bt574.2.2.1, bt574.2.2.2)))))) else (some (0, 0, ([] : List Int), 2)))
def curve_Part.T3 : Bool × List (List Nat × List Nat) := (true, [([], []), ([], []), ([1], [1]), ([0, 2], [0, 2]), ([], []), ([], []), ([5], [5]), ([4, 6], [4, 6]), ([3, 6, 0, 1, 2, 3], [3]), ([7, 8, 0, 1, 2, 3, 4, 5, 6, 7, 8], [7])])
def curve_Part.B3 : List Nat := [0, 0, 2, 7, 0, 0, 32, 112, 111, 511]
theorem curve_Part.tab3 : rtab .any (opsOf Try.f47 3) = curve_Part.T3 := by kernel_rfl
theorem curve_Part.bits3 : waitsOk curve_Part.T3.2 curve_Part.B3 = true := by kernel_rfl
set_option maxHeartbeats 8000000 in
set_option maxRecDepth 100000 in
theorem curve_Part.calls (a0_0 : Int) (a0_1 : Int) (A0_2 : Option Addr) (c0_2 : Nat) (l0_2 : List Int) (a1 : Int) (a2 : Int) (r1 : Int) (r2 : Int) (r3 : List Int) (r4 : Int) (w : World) (hr0_2 : Kd.C (Kd.int .i64) w A0_2 l0_2.length l0_2) (hc0_2 : l0_2.length ≤ c0_2) (h : curve_Part.f a0_0 a0_1 l0_2 a1 a2 = some (r1, r2, r3, r4)) :
 Calls Try.prog 47 #[.agg #[.int .i64 a0_0, .int .i64 a0_1, .slice A0_2 l0_2.length c0_2], .int .i64 a1, .int .i64 a2] w fun e w' => ∃ v2_ : Value, e = .returned (.tuple #[.agg #[.int .i64 r1, .int .i64 r2, v2_], .int .i64 r4]) ∧ Kd.R (Kd.int .i64) 3 w' w.heap.size (fun _ => True) v2_ r3 ∧ Below w.heap.size w w' := by
 have hu24 := Try.underlying24; have HR0_2 := Aside0.mk hr0_2; have HC0_2 := Aside0.mk hc0_2; clear hr0_2 hc0_2; have HB := Aside0.mk (Below.refl w.heap.size w); have H : ((curve_Valid.f a0_0 a0_1 l0_2).bind fun t567 => (if t567 = true then ((curve_to.f a0_0 a0_1 l0_2).bind fun t568 => (if (mx a1 a0_0) > (mn a2 t568) then (some (0, 0, ([] : List Int), 6)) else ((curve_part.f a0_0 a0_1 l0_2 (mx a1 a0_0) (mn a2 t568)).bind fun bt569 => ((curve_made.f bt569.1 bt569.2.1 bt569.2.2).bind fun bt574 => (some (bt574.1, bt574.2.1, bt574.2.2.1, bt574.2.2.2)))))) else (some (0, 0, ([] : List Int), 2)))) = some (r1, r2, r3, r4) := h; clear h; replace H := Option.bind_eq_some_iff.mp H; obtain ⟨t567, A40, H⟩ := H; replace H : (if t567 = true then ((curve_to.f a0_0 a0_1 l0_2).bind fun t568 => (if (mx a1 a0_0) > (mn a2 t568) then (some (0, 0, ([] : List Int), 6)) else ((curve_part.f a0_0 a0_1 l0_2 (mx a1 a0_0) (mn a2 t568)).bind fun bt569 => ((curve_made.f bt569.1 bt569.2.1 bt569.2.2).bind fun bt574 => (some (bt574.1, bt574.2.1, bt574.2.2.1, bt574.2.2.2)))))) else (some (0, 0, ([] : List Int), 2))) = some (r1, r2, r3, r4) := H; have A4 := Aside0.mk A40; clear A40
 by_cases c5 : t567 = true
 · subst c5; replace H : ((curve_to.f a0_0 a0_1 l0_2).bind fun t568 => (if (mx a1 a0_0) > (mn a2 t568) then (some (0, 0, ([] : List Int), 6)) else ((curve_part.f a0_0 a0_1 l0_2 (mx a1 a0_0) (mn a2 t568)).bind fun bt569 => ((curve_made.f bt569.1 bt569.2.1 bt569.2.2).bind fun bt574 => (some (bt574.1, bt574.2.1, bt574.2.2.1, bt574.2.2.2)))))) = some (r1, r2, r3, r4) := by rw [if_pos rfl] at H; exact H
   obtain ⟨ji6, hji6⟩ : ∃ j_ : Int, (mx a1 a0_0) = j_ := ⟨_, rfl⟩; replace H : ((curve_to.f a0_0 a0_1 l0_2).bind fun t568 => (if (ji6) > (mn a2 t568) then (some (0, 0, ([] : List Int), 6)) else ((curve_part.f a0_0 a0_1 l0_2 (ji6) (mn a2 t568)).bind fun bt569 => ((curve_made.f bt569.1 bt569.2.1 bt569.2.2).bind fun bt574 => (some (bt574.1, bt574.2.1, bt574.2.2.1, bt574.2.2.2)))))) = some (r1, r2, r3, r4) := by first | (rw [hji6] at H; exact H) | (simp only [hji6] at H ⊢; exact H)
   (try rw [hji6] at A4); have hji6_ : (if a1 < a0_0 then a0_0 else a1) = ji6 := hji6; replace H := Option.bind_eq_some_iff.mp H; obtain ⟨t568, A70, H⟩ := H; replace H : (if (ji6) > (mn a2 t568) then (some (0, 0, ([] : List Int), 6)) else ((curve_part.f a0_0 a0_1 l0_2 (ji6) (mn a2 t568)).bind fun bt569 => ((curve_made.f bt569.1 bt569.2.1 bt569.2.2).bind fun bt574 => (some (bt574.1, bt574.2.1, bt574.2.2.1, bt574.2.2.2))))) = some (r1, r2, r3, r4) := H; have A7 := Aside0.mk A70; clear A70; obtain ⟨ji8, hji8⟩ : ∃ j_ : Int, (mn a2 t568) = j_ := ⟨_, rfl⟩; replace H : (if (ji6) > (ji8) then (some (0, 0, ([] : List Int), 6)) else ((curve_part.f a0_0 a0_1 l0_2 (ji6) (ji8)).bind fun bt569 => ((curve_made.f bt569.1 bt569.2.1 bt569.2.2).bind fun bt574 => (some (bt574.1, bt574.2.1, bt574.2.2.1, bt574.2.2.2))))) = some (r1, r2, r3, r4) := by first | (rw [hji8] at H; exact H) | (simp only [hji8] at H ⊢; exact H)
   (try rw [hji8] at A4); (try rw [hji8] at A7); have hji8_ : (if t568 < a2 then t568 else a2) = ji8 := hji8
   by_cases c9 : (ji6) > (ji8)
   · rw [if_pos c9] at H; have c9b0 : decide ((ji8) < (ji6)) = true := decide_eq_true c9; clear c9; simp only [Option.some.injEq, Prod.mk.injEq] at H; obtain ⟨rfl, rfl, rfl, rfl⟩ := H; go_enter Try.func47, Try.ntmps47
     try go_wp2_with (first | ((with_reducible refine gate_dst (N := 3) rfl ?_); refine box_event ?hg (N := 3) ?hd (cs := #[.int .i64 a0_0, .int .i64 a0_1, .slice A0_2 l0_2.length c0_2]) (t := 24) ?hr ?_; (case hd => rfl); (case hg => rfl); (case hr => first | (go_simp; done) | (go_simp; rfl)); intro gb565 hg w10 hbox hb; have BK565 := Aside0.mk (hbox); have GW565 := Aside0.mk ((by rw [hg]; exact (below_size (nC HB)) : w.heap.size ≤ gb565)); have GE565 := Aside0.mk ((by rw [hg]; exact (below_size (nC HB)) : w.heap.size ≤ gb565)); replace HB := Aside0.mk (below_step (nC HB) hb); clear hb hbox hg) | ((with_reducible refine gate_dst (N := 6) rfl ?_); refine box_event ?hg (N := 6) ?hd (cs := #[.int .i64 0, .int .i64 0, .slice none 0 0]) (t := 24) ?hr ?_; (case hd => rfl); (case hg => rfl); (case hr => first | (go_simp; done) | (go_simp; rfl)); intro gb566 hg w11 hbox hb; have BK566 := Aside0.mk (hbox); have GW566 := Aside0.mk ((by rw [hg]; exact (below_size (nC HB)) : w.heap.size ≤ gb566)); have GE566 := Aside0.mk ((by rw [hg]; exact (below_size (nC HB)) : w.heap.size ≤ gb566)); replace HB := Aside0.mk (below_step (nC HB) hb); have NB565_566 := Aside0.mk ((by rw [hg]; exact Nat.ne_of_lt (blk_lt (nK BK565)) : gb565 ≠ gb566)); have NB566_565 := Aside0.mk ((by rw [hg]; exact Nat.ne_of_gt (blk_lt (nK BK565)) : gb566 ≠ gb565)); replace BK565 := Aside0.mk (nB BK565 hb); clear hb hbox hg; have hnb12 := NB565_566.out; have hnc12 := NB566_565.out; obtain ⟨hcz13_0, hcz13_1, hcz13_2, hfz13_0, hfz13_1, hfz13_2⟩ := cz3 BK565) | ((with_reducible refine gate_callee (f := 16) rfl ?_); refine gL (some 11) Try.func16 #[.agg #[.int .i64 a0_0, .int .i64 a0_1, .slice A0_2 l0_2.length c0_2]] ?_; (with_reducible refine (curve_Valid.calls a0_0 a0_1 _ _ l0_2 true _ ?side1 ?side2 A4.out).mono ?_); (case side1 => exact nS HR0_2 HB); (case side2 => exact HC0_2.out); rintro e w14 ⟨rfl, hb⟩; refine ⟨_, rfl, ?_⟩; replace BK565 := Aside0.mk (nB BK565 hb); replace BK566 := Aside0.mk (nB BK566 hb); replace HB := Aside0.mk (below_step (nC HB) hb); (try clear hb); (try clear hb2); (try clear hk); (try clear hi)))
     replace BK565 := Aside0.mk (blk_drew BK565.out); replace BK566 := Aside0.mk (blk_drew BK566.out); replace HB := Aside0.mk (below_drew1 HB.out); refine start_ (n := 10) (S := fun w' => w'.cell? ⟨gb565, 0, none⟩ = some (.int .i64 a0_0) ∧ w'.cell? ⟨gb565, 1, none⟩ = some (.int .i64 a0_1) ∧ w'.cell? ⟨gb565, 2, none⟩ = some (.slice A0_2 l0_2.length c0_2)) (ds := []) #[false, false, false, false, false, false, false, false, false, false] (by kernel_rfl) rfl rfl ⟨(blk_cell BK565.out 0).trans rfl, (blk_cell BK565.out 1).trans rfl, (blk_cell BK565.out 2).trans rfl⟩ (fun hHeld => ?_); refine with_tabW curve_Part.tab3 curve_Part.bits3 (fun HT_ HW_ => ?_); generalize w14.drew = w15 at BK565 BK566 HB hHeld ⊢; refine pure_ (i := 0) (N := some 14) (v := ?_) (a' := ?_) #[true, false, false, false, false, false, false, false, false, false] rfl rfl (any_of HT_.out (by kernel_rfl)) (fun _ _ _ h => h) (Or.inl ⟨by rfl, ?_⟩) ?_ ?_; rotate_left
     · intro w'; go_simp
       with_reducible rfl
     rotate_left
     · simp only [Act.put, zs1, zs2, zs3, i64_w, i32_w]; rfl
     refine pure_ (i := 1) (N := some 15) (v := ?_) (a' := ?_) #[true, true, false, false, false, false, false, false, false, false] rfl rfl (any_of HT_.out (by kernel_rfl)) (fun _ _ _ h => h) (Or.inl ⟨by rfl, ?_⟩) ?_ ?_; rotate_left
     · intro w'; go_simp
       with_reducible rfl
     rotate_left
     · simp only [Act.put, zs1, zs2, zs3, i64_w, i32_w]; rfl
     refine pure_ (i := 4) (N := some 18) (v := ?_) (a' := ?_) #[true, true, false, false, true, false, false, false, false, false] rfl rfl (any_of HT_.out (by kernel_rfl)) (fun _ _ _ h => h) (Or.inl ⟨by rfl, ?_⟩) ?_ ?_; rotate_left
     · intro w'; go_simp
       with_reducible rfl
     rotate_left
     · simp only [Act.put, zs1, zs2, zs3, i64_w, i32_w]; rfl
     refine take_ (i := 2) (N := some 16) (v := ?_) (a' := ?_) #[true, true, true, false, true, false, false, false, false, false] rfl rfl (take_ofW HT_.out HW_.out (by kernel_rfl)) (fun _ _ _ h => h) (Or.inl ⟨by rfl, ?_⟩) hHeld ?_ ?_; rotate_left
     · rintro w' ⟨s0, s1, s2⟩; go_simp
       with_reducible rfl
     rotate_left
     · simp only [Act.put, zs1, zs2, zs3, i64_w, i32_w]; rfl
     refine pure_ (i := 3) (N := some 17) (v := ?_) (a' := ?_) #[true, true, true, true, true, false, false, false, false, false] rfl rfl (any_of HT_.out (by kernel_rfl)) (fun _ _ _ h => h) (Or.inl ⟨by rfl, ?_⟩) ?_ ?_; rotate_left
     · intro w'; go_simp
       with_reducible rfl
     rotate_left
     · simp only [Act.put, zs1, zs2, zs3, i64_w, i32_w]; rfl
     refine take_ (i := 5) (N := some 19) (v := ?_) (a' := ?_) #[true, true, true, true, true, true, false, false, false, false] rfl rfl (take_ofW HT_.out HW_.out (by kernel_rfl)) (fun _ _ _ h => h) (Or.inl ⟨by rfl, ?_⟩) hHeld ?_ ?_; rotate_left
     · rintro w' ⟨s0, s1, s2⟩; go_simp
       with_reducible rfl
     rotate_left
     · simp only [Act.put, zs1, zs2, zs3, i64_w, i32_w]; rfl
     refine one_ (i := 6) (N := some 20) #[true, true, true, true, true, true, true, false, false, false] rfl rfl (one_of HT_.out (by kernel_rfl)) (by decide) (fun K hK => ?_); refine gO Try.func58 #[.agg #[.int .i64 a0_0, .int .i64 a0_1, .slice A0_2 l0_2.length c0_2]] ?_
     with_reducible refine (curve_to.calls a0_0 a0_1 _ _ l0_2 t568 _ ?side1 ?side2 A7.out).mono ?_
     (case side1 => exact nS HR0_2 HB); (case side2 => exact HC0_2.out); rintro e w16 ⟨rfl, hb⟩; refine ⟨_, rfl, ?_⟩; replace BK565 := Aside0.mk (nB BK565 hb); replace BK566 := Aside0.mk (nB BK566 hb); replace HB := Aside0.mk (below_step (nC HB) hb); (try clear hb); (try clear hb2); (try clear hk); (try clear hi); refine hK.out _ _ ⟨(blk_cell BK565.out 0).trans rfl, (blk_cell BK565.out 1).trans rfl, (blk_cell BK565.out 2).trans rfl⟩ (fun hHeld => ?_); clear hK K; refine norm_ (a' := ?_) ?_ ?_; rotate_left
     · show Act.put _ (some 20) _ = _; simp only [Act.put, zs1, zs2, zs3, i64_w, i32_w]; rfl
     refine pure_ (i := 7) (N := some 21) (v := ?_) (a' := ?_) #[true, true, true, true, true, true, true, true, false, false] rfl rfl (any_of HT_.out (by kernel_rfl)) (fun _ _ _ h => h) (Or.inl ⟨by rfl, ?_⟩) ?_ ?_; rotate_left
     · intro w'; go_simp
       with_reducible rfl
     rotate_left
     · simp only [Act.put, zs1, zs2, zs3, i64_w, i32_w]; rfl
     refine pure_ (i := 8) (N := some 8) (v := ?_) (a' := ?_) #[true, true, true, true, true, true, true, true, true, false] rfl rfl (any_of HT_.out (by kernel_rfl)) (fun _ _ _ h => h) (Or.inl ⟨by rfl, ?_⟩) ?_ ?_; rotate_left
     · intro w'; go_simp
       with_reducible rfl
     rotate_left
     · simp only [Act.put, zs1, zs2, zs3, i64_w, i32_w]; rfl
     refine pure_ (i := 9) (N := some 9) (v := ?_) (a' := ?_) #[true, true, true, true, true, true, true, true, true, true] rfl rfl (any_of HT_.out (by kernel_rfl)) (fun _ _ _ h => h) (Or.inl ⟨by rfl, ?_⟩) ?_ ?_; rotate_left
     · intro w'; go_simp
       with_reducible rfl
     rotate_left
     · simp only [Act.put, zs1, zs2, zs3, i64_w, i32_w]; rfl
     refine done_ (done_of HT_.out (by kernel_rfl)) ?_; obtain ⟨hcz17_0, hcz17_1, hcz17_2, hfz17_0, hfz17_1, hfz17_2⟩ := cz3 BK566; try go_wp2
     refine bodyPost_ret (results_ct rfl _ _ gb566 24 #[.int .i64 0, .int .i64 0, .slice none 0 0] (0, 0) _ rfl (by (with_reducible repeat (first | refine blk_drewN ?_ _ | refine blk_drew ?_ | refine blk_alloc ?_ _)); refine blk_put (cs := #[.int .i64 0, .int .i64 0, .slice none 0 0]) ?_ 2 _ rfl; (with_reducible repeat (first | refine blk_drewN ?_ _ | refine blk_drew ?_ | refine blk_alloc ?_ _)); refine blk_put (cs := #[.int .i64 0, .int .i64 0, .slice none 0 0]) ?_ 1 _ rfl; (with_reducible repeat (first | refine blk_drewN ?_ _ | refine blk_drew ?_ | refine blk_alloc ?_ _)); refine blk_put (cs := #[.int .i64 0, .int .i64 0, .slice none 0 0]) ?_ 0 _ rfl; (with_reducible repeat (first | refine blk_drewN ?_ _ | refine blk_drew ?_ | refine blk_alloc ?_ _)); exact BK566.out) Try.underlying24 rfl (by kernel_rfl)) rfl ?_; exact ⟨_, by first | rfl | (simp [errW_none, errW_some] <;> rfl) | (simp only [← hji6, ← hji8]; first | rfl | (simp [errW_none, errW_some] <;> rfl)) | (simp [*, errW_none, errW_some] <;> rfl), by first | exact Kd.R_nil _ _ _ _ _ | exact Kd.N_nil _ _ _ _ _ | exact Kd.V_nil _ _ _ _ _ | exact Kd.Q_nil _ _ _ _ _ | exact Kd.S_nil _ _ _ _ _, nC HB⟩
   · rw [if_neg c9] at H; have c9b0 : decide ((ji8) < (ji6)) = false := decide_eq_false c9; clear c9; replace H := Option.bind_eq_some_iff.mp H; obtain ⟨⟨t569, t570, t571⟩, A180, H⟩ := H; replace H : ((curve_made.f t569 t570 t571).bind fun bt574 => (some (bt574.1, bt574.2.1, bt574.2.2.1, bt574.2.2.2))) = some (r1, r2, r3, r4) := H; have A18 := Aside0.mk A180; clear A180; replace H := Option.bind_eq_some_iff.mp H; obtain ⟨⟨t574, t575, t576, t579⟩, A190, H⟩ := H; replace H : (some (t574, t575, t576, t579)) = some (r1, r2, r3, r4) := H; have A19 := Aside0.mk A190; clear A190; simp only [Option.some.injEq, Prod.mk.injEq] at H; obtain ⟨rfl, rfl, rfl, rfl⟩ := H; go_enter Try.func47, Try.ntmps47
     try go_wp2_with (first | ((with_reducible refine gate_dst (N := 3) rfl ?_); refine box_event ?hg (N := 3) ?hd (cs := #[.int .i64 a0_0, .int .i64 a0_1, .slice A0_2 l0_2.length c0_2]) (t := 24) ?hr ?_; (case hd => rfl); (case hg => rfl); (case hr => first | (go_simp; done) | (go_simp; rfl)); intro gb565 hg w20 hbox hb; have BK565 := Aside0.mk (hbox); have GW565 := Aside0.mk ((by rw [hg]; exact (below_size (nC HB)) : w.heap.size ≤ gb565)); have GE565 := Aside0.mk ((by rw [hg]; exact (below_size (nC HB)) : w.heap.size ≤ gb565)); replace HB := Aside0.mk (below_step (nC HB) hb); clear hb hbox hg) | ((with_reducible refine gate_dst (N := 6) rfl ?_); refine box_event ?hg (N := 6) ?hd (cs := #[.int .i64 0, .int .i64 0, .slice none 0 0]) (t := 24) ?hr ?_; (case hd => rfl); (case hg => rfl); (case hr => first | (go_simp; done) | (go_simp; rfl)); intro gb566 hg w21 hbox hb; have BK566 := Aside0.mk (hbox); have GW566 := Aside0.mk ((by rw [hg]; exact (below_size (nC HB)) : w.heap.size ≤ gb566)); have GE566 := Aside0.mk ((by rw [hg]; exact (below_size (nC HB)) : w.heap.size ≤ gb566)); replace HB := Aside0.mk (below_step (nC HB) hb); have NB565_566 := Aside0.mk ((by rw [hg]; exact Nat.ne_of_lt (blk_lt (nK BK565)) : gb565 ≠ gb566)); have NB566_565 := Aside0.mk ((by rw [hg]; exact Nat.ne_of_gt (blk_lt (nK BK565)) : gb566 ≠ gb565)); replace BK565 := Aside0.mk (nB BK565 hb); clear hb hbox hg; have hnb22 := NB565_566.out; have hnc22 := NB566_565.out; obtain ⟨hcz23_0, hcz23_1, hcz23_2, hfz23_0, hfz23_1, hfz23_2⟩ := cz3 BK565) | ((with_reducible refine gate_callee (f := 16) rfl ?_); refine gL (some 11) Try.func16 #[.agg #[.int .i64 a0_0, .int .i64 a0_1, .slice A0_2 l0_2.length c0_2]] ?_; (with_reducible refine (curve_Valid.calls a0_0 a0_1 _ _ l0_2 true _ ?side1 ?side2 A4.out).mono ?_); (case side1 => exact nS HR0_2 HB); (case side2 => exact HC0_2.out); rintro e w24 ⟨rfl, hb⟩; refine ⟨_, rfl, ?_⟩; replace BK565 := Aside0.mk (nB BK565 hb); replace BK566 := Aside0.mk (nB BK566 hb); replace HB := Aside0.mk (below_step (nC HB) hb); (try clear hb); (try clear hb2); (try clear hk); (try clear hi)))
     replace BK565 := Aside0.mk (blk_drew BK565.out); replace BK566 := Aside0.mk (blk_drew BK566.out); replace HB := Aside0.mk (below_drew1 HB.out); refine start_ (n := 10) (S := fun w' => w'.cell? ⟨gb565, 0, none⟩ = some (.int .i64 a0_0) ∧ w'.cell? ⟨gb565, 1, none⟩ = some (.int .i64 a0_1) ∧ w'.cell? ⟨gb565, 2, none⟩ = some (.slice A0_2 l0_2.length c0_2)) (ds := []) #[false, false, false, false, false, false, false, false, false, false] (by kernel_rfl) rfl rfl ⟨(blk_cell BK565.out 0).trans rfl, (blk_cell BK565.out 1).trans rfl, (blk_cell BK565.out 2).trans rfl⟩ (fun hHeld => ?_); refine with_tabW curve_Part.tab3 curve_Part.bits3 (fun HT_ HW_ => ?_); generalize w24.drew = w25 at BK565 BK566 HB hHeld ⊢; refine pure_ (i := 0) (N := some 14) (v := ?_) (a' := ?_) #[true, false, false, false, false, false, false, false, false, false] rfl rfl (any_of HT_.out (by kernel_rfl)) (fun _ _ _ h => h) (Or.inl ⟨by rfl, ?_⟩) ?_ ?_; rotate_left
     · intro w'; go_simp
       with_reducible rfl
     rotate_left
     · simp only [Act.put, zs1, zs2, zs3, i64_w, i32_w]; rfl
     refine pure_ (i := 1) (N := some 15) (v := ?_) (a' := ?_) #[true, true, false, false, false, false, false, false, false, false] rfl rfl (any_of HT_.out (by kernel_rfl)) (fun _ _ _ h => h) (Or.inl ⟨by rfl, ?_⟩) ?_ ?_; rotate_left
     · intro w'; go_simp
       with_reducible rfl
     rotate_left
     · simp only [Act.put, zs1, zs2, zs3, i64_w, i32_w]; rfl
     refine pure_ (i := 4) (N := some 18) (v := ?_) (a' := ?_) #[true, true, false, false, true, false, false, false, false, false] rfl rfl (any_of HT_.out (by kernel_rfl)) (fun _ _ _ h => h) (Or.inl ⟨by rfl, ?_⟩) ?_ ?_; rotate_left
     · intro w'; go_simp
       with_reducible rfl
     rotate_left
     · simp only [Act.put, zs1, zs2, zs3, i64_w, i32_w]; rfl
     refine take_ (i := 2) (N := some 16) (v := ?_) (a' := ?_) #[true, true, true, false, true, false, false, false, false, false] rfl rfl (take_ofW HT_.out HW_.out (by kernel_rfl)) (fun _ _ _ h => h) (Or.inl ⟨by rfl, ?_⟩) hHeld ?_ ?_; rotate_left
     · rintro w' ⟨s0, s1, s2⟩; go_simp
       with_reducible rfl
     rotate_left
     · simp only [Act.put, zs1, zs2, zs3, i64_w, i32_w]; rfl
     refine pure_ (i := 3) (N := some 17) (v := ?_) (a' := ?_) #[true, true, true, true, true, false, false, false, false, false] rfl rfl (any_of HT_.out (by kernel_rfl)) (fun _ _ _ h => h) (Or.inl ⟨by rfl, ?_⟩) ?_ ?_; rotate_left
     · intro w'; go_simp
       with_reducible rfl
     rotate_left
     · simp only [Act.put, zs1, zs2, zs3, i64_w, i32_w]; rfl
     refine take_ (i := 5) (N := some 19) (v := ?_) (a' := ?_) #[true, true, true, true, true, true, false, false, false, false] rfl rfl (take_ofW HT_.out HW_.out (by kernel_rfl)) (fun _ _ _ h => h) (Or.inl ⟨by rfl, ?_⟩) hHeld ?_ ?_; rotate_left
     · rintro w' ⟨s0, s1, s2⟩; go_simp
       with_reducible rfl
     rotate_left
     · simp only [Act.put, zs1, zs2, zs3, i64_w, i32_w]; rfl
     refine one_ (i := 6) (N := some 20) #[true, true, true, true, true, true, true, false, false, false] rfl rfl (one_of HT_.out (by kernel_rfl)) (by decide) (fun K hK => ?_); refine gO Try.func58 #[.agg #[.int .i64 a0_0, .int .i64 a0_1, .slice A0_2 l0_2.length c0_2]] ?_
     with_reducible refine (curve_to.calls a0_0 a0_1 _ _ l0_2 t568 _ ?side1 ?side2 A7.out).mono ?_
     (case side1 => exact nS HR0_2 HB); (case side2 => exact HC0_2.out); rintro e w26 ⟨rfl, hb⟩; refine ⟨_, rfl, ?_⟩; replace BK565 := Aside0.mk (nB BK565 hb); replace BK566 := Aside0.mk (nB BK566 hb); replace HB := Aside0.mk (below_step (nC HB) hb); (try clear hb); (try clear hb2); (try clear hk); (try clear hi); refine hK.out _ _ ⟨(blk_cell BK565.out 0).trans rfl, (blk_cell BK565.out 1).trans rfl, (blk_cell BK565.out 2).trans rfl⟩ (fun hHeld => ?_); clear hK K; refine norm_ (a' := ?_) ?_ ?_; rotate_left
     · show Act.put _ (some 20) _ = _; simp only [Act.put, zs1, zs2, zs3, i64_w, i32_w]; rfl
     refine pure_ (i := 7) (N := some 21) (v := ?_) (a' := ?_) #[true, true, true, true, true, true, true, true, false, false] rfl rfl (any_of HT_.out (by kernel_rfl)) (fun _ _ _ h => h) (Or.inl ⟨by rfl, ?_⟩) ?_ ?_; rotate_left
     · intro w'; go_simp
       with_reducible rfl
     rotate_left
     · simp only [Act.put, zs1, zs2, zs3, i64_w, i32_w]; rfl
     refine pure_ (i := 8) (N := some 8) (v := ?_) (a' := ?_) #[true, true, true, true, true, true, true, true, true, false] rfl rfl (any_of HT_.out (by kernel_rfl)) (fun _ _ _ h => h) (Or.inl ⟨by rfl, ?_⟩) ?_ ?_; rotate_left
     · intro w'; go_simp
       with_reducible rfl
     rotate_left
     · simp only [Act.put, zs1, zs2, zs3, i64_w, i32_w]; rfl
     refine pure_ (i := 9) (N := some 9) (v := ?_) (a' := ?_) #[true, true, true, true, true, true, true, true, true, true] rfl rfl (any_of HT_.out (by kernel_rfl)) (fun _ _ _ h => h) (Or.inl ⟨by rfl, ?_⟩) ?_ ?_; rotate_left
     · intro w'; go_simp
       with_reducible rfl
     rotate_left
     · simp only [Act.put, zs1, zs2, zs3, i64_w, i32_w]; rfl
     refine done_ (done_of HT_.out (by kernel_rfl)) ?_; obtain ⟨hcz27_0, hcz27_1, hcz27_2, hfz27_0, hfz27_1, hfz27_2⟩ := cz3 BK565; try go_wp2_with (first | ((with_reducible refine gate_callee (f := 76) rfl ?_); refine goesL_ (some 29) rfl rfl Try.func76 (by kernel_rfl) rfl #[.agg #[.int .i64 a0_0, .int .i64 a0_1, .slice A0_2 l0_2.length c0_2], .int .i64 ji6, .int .i64 ji8] rfl (by (try simp only [List.map_toArray, List.map_cons, List.map_nil]); first | done | (simp only [hji6, hji8]; rfl) | rfl | (simp only [List.length_drop, List.length_take]; rfl)) ?_; (with_reducible refine (curve_part.calls a0_0 a0_1 _ _ l0_2 ji6 ji8 t569 t570 t571 _ ?side1 ?side2 A18.out).mono ?_); (case side1 => exact nS HR0_2 HB); (case side2 => exact HC0_2.out); rintro e w28 ⟨v572, rfl, ho0, hb⟩; refine ⟨_, rfl, ?_⟩; have HO573 := Aside0.mk (Kd.R_lower ho0 (below_size (nC HB))); replace BK565 := Aside0.mk (nB BK565 hb); replace BK566 := Aside0.mk (nB BK566 hb); replace HB := Aside0.mk (below_step (nC HB) hb); (try clear hb); (try clear hb2); (try clear hk); (try clear hi); (try clear ho0); obtain ⟨Ao29, co29, eo29⟩ := Kd.R_slice HO573.out; subst eo29) | ((with_reducible refine gate_callee (f := 51) rfl ?_); refine gL (some 30) Try.func51 #[.agg #[.int .i64 t569, .int .i64 t570, .slice Ao29 t571.length co29]] ?_; (with_reducible refine (curve_made.calls t569 t570 (fun k_ => some k_ = (.slice Ao29 t571.length co29 : Value).ownBlock) (.slice Ao29 t571.length co29) t571 t574 t575 t576 t579 w _ ?side1 ?side2 A19.out).mono ?_); (case side1 => repeat (first | (with_reducible first | exact HB.out | apply below_alloc | apply pw_below_drewN | apply below_drew1 | refine below_set ?_ GE565.out | refine below_set ?_ GE566.out) | exact HB.out)); (case side2 => exact Kd.R_tight rfl HO573.out); rintro e w30 ⟨v577, rfl, ho0, hb, hkp⟩; refine ⟨_, rfl, ?_⟩; replace BK565 := Aside0.mk (blk_kept (nK BK565) hkp (fun hs_ => (fun e_ => (Kd.R_ne HO573.out BK565.out (by decide)) e_) hs_)); replace BK566 := Aside0.mk (blk_kept (nK BK566) hkp (fun hs_ => (fun e_ => (Kd.R_ne HO573.out BK566.out (by decide)) e_) hs_)); have HO578 := Aside0.mk (Kd.R_mono (ok' := fun k_ => True) ho0 (fun k_ hk_ => trivial)); replace HB := Aside0.mk (hb); clear HO573; (try clear hb); (try clear hkp); (try clear ho0); obtain ⟨hcz31_0, hcz31_1, hcz31_2, hfz31_0, hfz31_1, hfz31_2⟩ := cz3 BK566; obtain ⟨Ao32, co32, eo32⟩ := Kd.R_slice HO578.out; subst eo32))
     refine bodyPost_ret (results_ct rfl _ _ gb566 24 #[.int .i64 t574, .int .i64 t575, .slice Ao32 t576.length co32] (0, 0) _ rfl (by (with_reducible repeat (first | refine blk_drewN ?_ _ | refine blk_drew ?_ | refine blk_alloc ?_ _)); refine blk_put (cs := #[.int .i64 t574, .int .i64 t575, .slice none 0 0]) ?_ 2 _ rfl; (with_reducible repeat (first | refine blk_drewN ?_ _ | refine blk_drew ?_ | refine blk_alloc ?_ _)); refine blk_put (cs := #[.int .i64 t574, .int .i64 0, .slice none 0 0]) ?_ 1 _ rfl; (with_reducible repeat (first | refine blk_drewN ?_ _ | refine blk_drew ?_ | refine blk_alloc ?_ _)); refine blk_put (cs := #[.int .i64 0, .int .i64 0, .slice none 0 0]) ?_ 0 _ rfl; (with_reducible repeat (first | refine blk_drewN ?_ _ | refine blk_drew ?_ | refine blk_alloc ?_ _)); exact BK566.out) Try.underlying24 rfl (by kernel_rfl)) rfl ?_; exact ⟨_, by first | rfl | (simp [errW_none, errW_some] <;> rfl) | (simp only [← hji6, ← hji8]; first | rfl | (simp [errW_none, errW_some] <;> rfl)) | (simp [*, errW_none, errW_some] <;> rfl), by (with_reducible repeat (first | apply Kd.R_alloc | apply Kd.R_drewN | apply Kd.R_drew)); exact Kd.R_mono (Kd.R_far (p := ⟨gb566, 2, none⟩) (Kd.R_far (p := ⟨gb566, 1, none⟩) (Kd.R_far (p := ⟨gb566, 0, none⟩) (Kd.R_types HO578.out BK566.out (by decide)) (fun _ hk => hk.2) (.int .i64 t574)) (fun _ hk => hk.2) (.int .i64 t575)) (fun _ hk => hk.2) (.slice Ao32 t576.length co32)) (fun _ hk => trivial), nC HB⟩
 · replace c5 := Bool.eq_false_iff.mpr c5; subst c5; replace H : (some (0, 0, ([] : List Int), 2)) = some (r1, r2, r3, r4) := by rw [if_neg (show ¬ (false = true) by decide)] at H; exact H
   simp only [Option.some.injEq, Prod.mk.injEq] at H; obtain ⟨rfl, rfl, rfl, rfl⟩ := H; go_enter Try.func47, Try.ntmps47
   go_wp2_with (first | ((with_reducible refine gate_dst (N := 3) rfl ?_); refine box_event ?hg (N := 3) ?hd (cs := #[.int .i64 a0_0, .int .i64 a0_1, .slice A0_2 l0_2.length c0_2]) (t := 24) ?hr ?_; (case hd => rfl); (case hg => rfl); (case hr => first | (go_simp; done) | (go_simp; rfl)); intro gb565 hg w33 hbox hb; have BK565 := Aside0.mk (hbox); have GW565 := Aside0.mk ((by rw [hg]; exact (below_size (nC HB)) : w.heap.size ≤ gb565)); have GE565 := Aside0.mk ((by rw [hg]; exact (below_size (nC HB)) : w.heap.size ≤ gb565)); replace HB := Aside0.mk (below_step (nC HB) hb); clear hb hbox hg) | ((with_reducible refine gate_dst (N := 6) rfl ?_); refine box_event ?hg (N := 6) ?hd (cs := #[.int .i64 0, .int .i64 0, .slice none 0 0]) (t := 24) ?hr ?_; (case hd => rfl); (case hg => rfl); (case hr => first | (go_simp; done) | (go_simp; rfl)); intro gb566 hg w34 hbox hb; have BK566 := Aside0.mk (hbox); have GW566 := Aside0.mk ((by rw [hg]; exact (below_size (nC HB)) : w.heap.size ≤ gb566)); have GE566 := Aside0.mk ((by rw [hg]; exact (below_size (nC HB)) : w.heap.size ≤ gb566)); replace HB := Aside0.mk (below_step (nC HB) hb); have NB565_566 := Aside0.mk ((by rw [hg]; exact Nat.ne_of_lt (blk_lt (nK BK565)) : gb565 ≠ gb566)); have NB566_565 := Aside0.mk ((by rw [hg]; exact Nat.ne_of_gt (blk_lt (nK BK565)) : gb566 ≠ gb565)); replace BK565 := Aside0.mk (nB BK565 hb); clear hb hbox hg; have hnb35 := NB565_566.out; have hnc35 := NB566_565.out; obtain ⟨hcz36_0, hcz36_1, hcz36_2, hfz36_0, hfz36_1, hfz36_2⟩ := cz3 BK565) | ((with_reducible refine gate_callee (f := 16) rfl ?_); refine gL (some 11) Try.func16 #[.agg #[.int .i64 a0_0, .int .i64 a0_1, .slice A0_2 l0_2.length c0_2]] ?_; (with_reducible refine (curve_Valid.calls a0_0 a0_1 _ _ l0_2 false _ ?side1 ?side2 A4.out).mono ?_); (case side1 => exact nS HR0_2 HB); (case side2 => exact HC0_2.out); rintro e w37 ⟨rfl, hb⟩; refine ⟨_, rfl, ?_⟩; replace BK565 := Aside0.mk (nB BK565 hb); replace BK566 := Aside0.mk (nB BK566 hb); replace HB := Aside0.mk (below_step (nC HB) hb); (try clear hb); (try clear hb2); (try clear hk); (try clear hi); obtain ⟨hcz38_0, hcz38_1, hcz38_2, hfz38_0, hfz38_1, hfz38_2⟩ := cz3 BK566))
   refine bodyPost_ret (results_ct rfl _ _ gb566 24 #[.int .i64 0, .int .i64 0, .slice none 0 0] (0, 0) _ rfl (by (with_reducible repeat (first | refine blk_drewN ?_ _ | refine blk_drew ?_ | refine blk_alloc ?_ _)); refine blk_put (cs := #[.int .i64 0, .int .i64 0, .slice none 0 0]) ?_ 2 _ rfl; (with_reducible repeat (first | refine blk_drewN ?_ _ | refine blk_drew ?_ | refine blk_alloc ?_ _)); refine blk_put (cs := #[.int .i64 0, .int .i64 0, .slice none 0 0]) ?_ 1 _ rfl; (with_reducible repeat (first | refine blk_drewN ?_ _ | refine blk_drew ?_ | refine blk_alloc ?_ _)); refine blk_put (cs := #[.int .i64 0, .int .i64 0, .slice none 0 0]) ?_ 0 _ rfl; (with_reducible repeat (first | refine blk_drewN ?_ _ | refine blk_drew ?_ | refine blk_alloc ?_ _)); exact BK566.out) Try.underlying24 rfl (by kernel_rfl)) rfl ?_; exact ⟨_, by first | rfl | (simp [errW_none, errW_some] <;> rfl) | (simp [*, errW_none, errW_some] <;> rfl), by first | exact Kd.R_nil _ _ _ _ _ | exact Kd.N_nil _ _ _ _ _ | exact Kd.V_nil _ _ _ _ _ | exact Kd.Q_nil _ _ _ _ _ | exact Kd.S_nil _ _ _ _ _, nC HB⟩
end Go.Proofs.Ytingjpcgehgiiaa.Pr
end
section
namespace Go.Proofs.Ytingjpcgehgiiaa.Pr
open Go.RowKit Go.Proofs.YtingjpcgehgiiaaW.PrintWords Go.Proofs.YtingjpcgehgiiaaW.PrintLast Go.Proofs.YtingjpcgehgiiaaW.PrintMore
set_option linter.unusedVariables false
set_option linter.unusedSimpArgs false
def madeR (c : S24) : Int × Int × List Int × Int := if Vc c then (c.f0, c.f1, c.f2, 0) else (0, 0, [], 4)
theorem made_law (c : S24) : curve_made.f c.f0 c.f1 c.f2 = some (madeR c) := by
  unfold curve_made.f madeR
  rw [valid_f c, Option.bind_some]
  by_cases h : Vc c
  · rw [if_pos (decide_eq_true h), if_pos h]
  · rw [if_neg (by rw [decide_eq_true_eq]; exact h), if_neg h]
theorem inB_iff {x m : Int} : inB x m = true ↔ -m ≤ x ∧ x ≤ m := by
  unfold inB
  rw [Bool.and_eq_true, decide_eq_true_eq, decide_eq_true_eq]
def tiltC (c : S24) (p : Int) : S24 := ⟨c.f0, c.f1 + p * c.f0, c.f2.map fun s => s + p⟩
def tiltR (c : S24) (p : Int) : Int × Int × List Int × Int := if Vc c ∧ inB p 1048576 = true then madeR (tiltC c p) else (0, 0, [], 2)
theorem tilt_loop {l : List Int} {p x y : Int} (hp : -1048576 ≤ p ∧ p ≤ 1048576) (hl : l.length ≤ 64) (hs : ∀ s ∈ l, -1048576 ≤ s ∧ s ≤ 1048576) : ∀ n i : Nat, i + n = l.length → Ev (fun k => curve_Tilt.l0 k p l (l.length : Int) (i : Int) x y ((l.take i).map fun s => s + p)) (madeR ⟨x, y, l.map fun s => s + p⟩)
  | 0, i, hi => by
    have e : i = l.length := by omega
    subst e
    rw [List.take_length]
    refine Ev.step (f := fun _ => some (madeR ⟨x, y, l.map fun s => s + p⟩)) (fun k => ?_) (Ev.now _)
    simp only [curve_Tilt.l0]
    rw [if_neg (by omega), made_law ⟨x, y, l.map fun s => s + p⟩]
    rfl
  | n + 1, i, hi => by
    have ih := tilt_loop (x := x) (y := y) hp hl hs n (i + 1) (by omega)
    have ew : wrap64 ((i : Int) + 1) = ((i + 1 : Nat) : Int) := by unfold wrap64; omega
    have hm := hs (rd l (i : Int)) (by rw [rd_nat l i (by omega)]; exact List.getElem_mem _)
    have ev : wrap64 (rd l (i : Int) + p) = rd l (i : Int) + p := by unfold wrap64; omega
    have et : (l.take (i + 1)).map (fun s => s + p) = (l.take i).map (fun s => s + p) ++ [rd l (i : Int) + p] := by
      rw [List.take_add_one, List.getElem?_eq_getElem (by omega), List.map_append, rd_nat l i (by omega)]
      rfl
    refine Ev.step (fun k => ?_) ih
    simp only [curve_Tilt.l0]
    have hlen : ((l.take i).map fun s => s + p).length < 17592186044416 := by rw [List.length_map, List.length_take]; omega
    rw [if_pos (by omega), if_pos (by omega), if_pos (by omega), if_pos hlen, ew, ev, et]
theorem tilt_ev (c : S24) (p : Int) : Ev (fun k => curve_Tilt.f k c.f0 c.f1 c.f2 p) (tiltR c p) := by
  unfold curve_Tilt.f tiltR
  rw [valid_f c]
  refine Ev.congr (fun k => Option.bind_some _ _) ?_
  by_cases h : Vc c
  · refine Ev.congr (fun k => if_pos (decide_eq_true h)) ?_
    rw [within_f p 1048576 (by decide) (by decide)]
    refine Ev.congr (fun k => Option.bind_some _ _) ?_
    by_cases hp : inB p 1048576 = true
    · rw [if_pos ⟨h, hp⟩, hp]
      obtain ⟨h1, h2, h3, h4, h5, _, h7⟩ := vc_parts h
      have hp2 := inB_iff.1 hp
      have hm := mul_bound (P := 1048576) (X := 1048576) hp2 ⟨h1, h2⟩
      have e1 : wrap64 (p * c.f0) = p * c.f0 := by unfold wrap64; omega
      have e2 : wrap64 (c.f1 + p * c.f0) = c.f1 + p * c.f0 := by unfold wrap64; omega
      have hl := tilt_loop (l := c.f2) (x := c.f0) (y := c.f1 + p * c.f0) hp2 h5 h7 c.f2.length 0 (by omega)
      refine Ev.step (fun k => ?_) hl
      simp only [curve_Tilt.j0]
      rw [if_neg (by simp), e1, e2]
      rfl
    · rw [if_neg (fun e => hp e.2), Bool.eq_false_iff.2 hp]
      refine Ev.step (f := fun _ => some (0, 0, [], 2)) (fun k => ?_) (Ev.now _)
      simp only [curve_Tilt.j0]
      rfl
  · refine Ev.congr (fun k => if_neg (by rw [decide_eq_true_eq]; exact h)) ?_
    rw [if_neg (fun e => h e.1)]
    refine Ev.step (f := fun _ => some (0, 0, [], 2)) (fun k => ?_) (Ev.now _)
    simp only [curve_Tilt.j0]
    rfl
def moveC (c : S24) (x y : Int) : S24 := ⟨c.f0 + x, c.f1 + y, c.f2⟩
def moveR (c : S24) (x y : Int) : Int × Int × List Int × Int := if Vc c ∧ inB x 1048576 = true ∧ inB y 1099511627776 = true then madeR (moveC c x y) else (0, 0, [], 2)
theorem move_ev (c : S24) (x y : Int) : Ev (fun k => curve_Move.f k c.f0 c.f1 c.f2 x y) (moveR c x y) := by
  have bad : Ev (fun k => curve_Move.j0 k x y true c.f0 c.f1 c.f2) (0, 0, [], 2) := by
    refine Ev.step (f := fun _ => some (0, 0, [], 2)) (fun k => ?_) (Ev.now _)
    simp only [curve_Move.j0]
    rfl
  unfold curve_Move.f moveR
  rw [valid_f c]
  refine Ev.congr (fun k => Option.bind_some _ _) ?_
  by_cases h : Vc c
  · refine Ev.congr (fun k => if_pos (decide_eq_true h)) ?_
    rw [within_f x 1048576 (by decide) (by decide), within_f y 1099511627776 (by decide) (by decide)]
    refine Ev.congr (fun k => Option.bind_some _ _) ?_
    by_cases hx : inB x 1048576 = true
    · refine Ev.congr (fun k => if_pos hx) (Ev.congr (fun k => Option.bind_some _ _) ?_)
      by_cases hy : inB y 1099511627776 = true
      · rw [if_pos ⟨h, hx, hy⟩, hy]
        obtain ⟨h1, h2, h3, h4, h5, _, h7⟩ := vc_parts h
        have hx2 := inB_iff.1 hx
        have hy2 := inB_iff.1 hy
        have e1 : wrap64 (c.f0 + x) = c.f0 + x := by unfold wrap64; omega
        have e2 : wrap64 (c.f1 + y) = c.f1 + y := by unfold wrap64; omega
        refine Ev.step (f := fun _ => some (madeR (moveC c x y))) (fun k => ?_) (Ev.now _)
        simp only [curve_Move.j0]
        rw [if_neg (by simp), e1, e2]
        unfold clone_int.f
        rw [if_pos (show c.f2.length ≤ 8796093022208 by omega), Option.bind_some]
        have := made_law (moveC c x y)
        unfold moveC at this ⊢
        simp only at this
        rw [this]
        rfl
      · rw [if_neg (fun e => hy e.2.2), Bool.eq_false_iff.2 hy]
        exact bad
    · rw [if_neg (fun e => hx e.2.1)]
      exact Ev.congr (fun k => if_neg hx) bad
  · rw [if_neg (fun e => h e.1)]
    exact Ev.congr (fun k => if_neg (by rw [decide_eq_true_eq]; exact h)) bad
def partC (c : S24) (x y : Int) : S24 := ⟨mx x c.f0, valC c (mx x c.f0), sub c (mx x c.f0) (mn y (toC c))⟩
def partR (c : S24) (x y : Int) : Int × Int × List Int × Int := if Vc c then (if mx x c.f0 > mn y (toC c) then (0, 0, [], 6) else madeR (partC c x y)) else (0, 0, [], 2)
theorem part_in {c : S24} {x y : Int} (h : ¬mx x c.f0 > mn y (toC c)) : inC c (mx x c.f0) ∧ inC c (mn y (toC c)) ∧ mx x c.f0 ≤ mn y (toC c) := by
  rw [mx_eq, mn_eq] at *
  unfold inC toC at *
  omega
theorem part_law (c : S24) (x y : Int) : curve_Part.f c.f0 c.f1 c.f2 x y = some (partR c x y) := by
  unfold curve_Part.f partR
  rw [valid_f c, Option.bind_some]
  by_cases h : Vc c
  · rw [if_pos (decide_eq_true h), if_pos h, to_f h, Option.bind_some]
    show (if mx x c.f0 > mn y (toC c) then _ else _) = _
    by_cases hg : mx x c.f0 > mn y (toC c)
    · rw [if_pos hg, if_pos hg]
    · rw [if_neg hg, if_neg hg]
      obtain ⟨i1, i2, i3⟩ := part_in hg
      have := part_f h i1 i2 i3
      unfold toC at this
      rw [this, Option.bind_some]
      have hm := made_law (partC c x y)
      unfold partC toC at hm
      simp only at hm
      simp only
      rw [hm]
      rfl
  · rw [if_neg (by rw [decide_eq_true_eq]; exact h), if_neg h]
theorem valC_eq (c : S24) (x : Int) : valC c x = c.f1 + tot (c.f2.take (x - c.f0).toNat) := rfl
theorem tot_cut (l : List Int) {m n : Nat} (h : m ≤ n) : tot ((l.take n).drop m) = tot (l.take n) - tot (l.take m) := by
  have e : (l.take n).take m ++ (l.take n).drop m = l.take n := List.take_append_drop _ _
  rw [List.take_take, Nat.min_eq_left h] at e
  have := congrArg tot e
  rw [tot_append] at this
  omega
theorem tot_sub {c : S24} {lo hi z : Int} (h1 : inC c lo) (h2 : inC c hi) (hz : lo ≤ z ∧ z ≤ hi) : tot ((sub c lo hi).take (z - lo).toNat) = valC c z - valC c lo := by
  obtain ⟨a1, b1⟩ := h1
  obtain ⟨a2, b2⟩ := h2
  unfold sub
  rw [List.take_drop, List.take_take, show min ((lo - c.f0).toNat + (z - lo).toNat) (hi - c.f0).toNat = (z - c.f0).toNat by omega, tot_cut _ (by omega), valC_eq, valC_eq]
  omega
theorem val_part {c : S24} {lo hi z : Int} (h1 : inC c lo) (h2 : inC c hi) (hz : lo ≤ z ∧ z ≤ hi) : valC ⟨lo, valC c lo, sub c lo hi⟩ z = valC c z := by
  rw [valC_eq]
  simp only
  rw [tot_sub h1 h2 hz]
  omega
theorem tot_zip : ∀ {a b : List Int}, a.length = b.length → tot (List.zipWith (fun x y => x + y) a b) = tot a + tot b
  | [], [], _ => rfl
  | x :: s, y :: t, h => by
    rw [List.zipWith_cons_cons, tot, tot, tot, tot_zip (a := s) (b := t) (by simpa using h)]
    omega
theorem addC_len {a b : S24} {lo hi : Int} (h1 : inC a lo) (h2 : inC a hi) (h3 : inC b lo) (h4 : inC b hi) (h5 : lo ≤ hi) : (sub a lo hi).length = (sub b lo hi).length ∧ (sub a lo hi).length = (hi - lo).toNat := by
  have e1 := sub_len h1 h2
  have e2 := sub_len h3 h4
  unfold inC at *
  omega
theorem val_add {a b : S24} {lo hi z : Int} (h1 : inC a lo) (h2 : inC a hi) (h3 : inC b lo) (h4 : inC b hi) (hz : lo ≤ z ∧ z ≤ hi) : valC (addC a b lo hi) z = valC a z + valC b z := by
  obtain ⟨e1, e2⟩ := addC_len h1 h2 h3 h4 (by omega)
  rw [valC_eq]
  unfold addC
  simp only
  rw [List.take_zipWith, tot_zip (by rw [List.length_take, List.length_take, e1]), tot_sub h1 h2 hz, tot_sub h3 h4 hz]
  omega
theorem tot_plus (p : Int) : ∀ l : List Int, tot (l.map fun s => s + p) = tot l + p * (l.length : Int)
  | [] => by simp [tot]
  | x :: t => by
    rw [List.map_cons, tot, tot, tot_plus p t, mul_succ_len]
    omega
theorem val_tilt {c : S24} {p z : Int} (hz : inC c z) : valC (tiltC c p) z = valC c z + p * z := by
  obtain ⟨a1, b1⟩ := hz
  rw [valC_eq, valC_eq]
  unfold tiltC
  simp only
  rw [← List.map_take, tot_plus, List.length_take, show ((min (z - c.f0).toNat c.f2.length : Nat) : Int) = z - c.f0 by omega, Int.mul_sub]
  omega
theorem tot_neg : ∀ {l : List Int}, (∀ s ∈ l, -1048576 ≤ s ∧ s ≤ 1048576) → tot (negs l) = -tot l
  | [], _ => rfl
  | x :: t, h => by
    have hx := h x List.mem_cons_self
    have ih := tot_neg (l := t) fun s hs => h s (List.mem_cons_of_mem _ hs)
    unfold negs at ih ⊢
    rw [List.map_cons, tot, tot, ih]
    have e : wrap64 (-x) = -x := by unfold wrap64; omega
    rw [e]
    omega
theorem tot_rev : ∀ l : List Int, tot l.reverse = tot l
  | [] => rfl
  | x :: t => by
    rw [List.reverse_cons, tot_append, tot_rev t, tot, tot, tot]
    omega
theorem flip_f0 {c : S24} (h : Vc c) : (flipC c).f0 = -(toC c) := by
  obtain ⟨h1, h2, h3, h4, h5, _, h7⟩ := vc_parts h
  unfold flipC toC
  simp only
  unfold wrap64
  omega
theorem flip_len (c : S24) : (flipC c).f2.length = c.f2.length := by unfold flipC negs; simp
theorem val_to (c : S24) : valC c (toC c) = c.f1 + tot c.f2 := by
  rw [valC_eq]
  unfold toC
  rw [show (c.f0 + (c.f2.length : Int) - c.f0).toNat = c.f2.length by omega, List.take_length]
theorem val_flip {c : S24} (h : Vc c) {z : Int} (hz : inC c z) : valC (flipC c) (-z) = valC c z := by
  have h7 := (vc_parts h).2.2.2.2.2.2
  obtain ⟨a1, b1⟩ := hz
  have e1 : (-z - (flipC c).f0).toNat = c.f2.length - (z - c.f0).toNat := by rw [flip_f0 h]; unfold toC; omega
  have e2 : (flipC c).f2.take (-z - (flipC c).f0).toNat = negs (c.f2.drop (z - c.f0).toNat).reverse := by
    rw [e1]
    unfold flipC negs
    simp only
    rw [← List.map_take, List.take_reverse, show c.f2.length - (c.f2.length - (z - c.f0).toNat) = (z - c.f0).toNat by omega]
  have e3 : tot c.f2 = tot (c.f2.take (z - c.f0).toNat) + tot (c.f2.drop (z - c.f0).toNat) := by rw [← tot_append, List.take_append_drop]
  rw [valC_eq, e2, tot_neg (fun s hs => h7 s (List.mem_of_mem_drop (List.mem_reverse.1 hs))), tot_rev]
  have e4 : (flipC c).f1 = c.f1 + tot c.f2 := val_to c
  rw [e4, valC_eq]
  omega
theorem val_move {c : S24} {x y z : Int} : valC (moveC c x y) (z + x) = valC c z + y := by
  rw [valC_eq, valC_eq]
  unfold moveC
  simp only
  rw [show z + x - (c.f0 + x) = z - c.f0 by omega]
  omega
end Go.Proofs.Ytingjpcgehgiiaa.Pr
end
section
namespace Go.Proofs.Ytingjpcgehgiiaa.Pr
open Go.RowKit Go.Proofs.YtingjpcgehgiiaaW.PrintWords Go.Proofs.YtingjpcgehgiiaaW.PrintLast Go.Proofs.YtingjpcgehgiiaaW.PrintMore
set_option linter.unusedVariables false
set_option linter.unusedSimpArgs false
theorem sortL_perm (l : List Int) : (sortL l).Perm l := List.mergeSort_perm l _
theorem sortL_pair (l : List Int) : (sortL l).Pairwise (· ≤ ·) := by
  have h := List.pairwise_mergeSort (le := fun x y : Int => decide (x ≤ y)) (fun a b c h1 h2 => by simp only [decide_eq_true_eq] at *; omega) (fun a b => by simp only [Bool.or_eq_true, decide_eq_true_eq]; omega) l
  unfold sortL
  exact h.imp fun h => by simpa using h
theorem sortedI_pair {l : List Int} (h : l.Pairwise (· ≤ ·)) : sortedI l = true := by
  unfold sortedI
  rw [sortedTo_iff]
  intro j hj
  rw [rd_nat l j (by omega), rd_nat l (j + 1) (by omega)]
  exact List.pairwise_iff_getElem.1 h j (j + 1) (by omega) (by omega) (by omega)
theorem sortL_sorted (l : List Int) : sortedI (sortL l) = true := sortedI_pair (sortL_pair l)
/-- The join. -/
def joinC (a b : S24) : S24 := ⟨a.f0 + b.f0, a.f1 + b.f1, sortL (a.f2 ++ b.f2)⟩
theorem joinC_len (a b : S24) : (joinC a b).f2.length = a.f2.length + b.f2.length := by
  unfold joinC
  rw [sortL_len, List.length_append]
theorem joinR_eq {a b : S24} (ha : Vc a) (hb : Vc b) : joinR a.f0 a.f1 a.f2 b.f0 b.f1 b.f2 = if Vc (joinC a b) then ((joinC a b).f0, (joinC a b).f1, (joinC a b).f2, 0) else (0, 0, [], 4) := by
  obtain ⟨h1, h2, h3, h4, h5, _, h7⟩ := vc_parts ha
  obtain ⟨k1, k2, k3, k4, k5, _, k7⟩ := vc_parts hb
  unfold joinR
  have e1 : wrap64 (a.f0 + b.f0) = a.f0 + b.f0 := by unfold wrap64; omega
  have e2 : wrap64 (a.f1 + b.f1) = a.f1 + b.f1 := by unfold wrap64; omega
  have e3 : (validC a.f0 a.f1 a.f2 && validC b.f0 b.f1 b.f2) = true := by rw [Bool.and_eq_true]; exact ⟨ha, hb⟩
  rw [e1, e2, if_pos e3]
  rfl
theorem joinR_arg {a b : S24} (h : ¬(Vc a ∧ Vc b)) : joinR a.f0 a.f1 a.f2 b.f0 b.f1 b.f2 = (0, 0, [], 2) := by
  unfold joinR
  rw [if_neg]
  rw [Bool.and_eq_true]
  exact h
theorem gC_join (a b : S24) (p : Int) : gC (joinC a b) p = gC a p + gC b p := by
  unfold gC joinC
  simp only
  rw [pos_perm p (sortL_perm _), pos_append, Int.mul_add]
  omega
theorem join_in {a b : S24} {x y : Int} (hx : inC a x) (hy : inC b y) : inC (joinC a b) (x + y) := by
  have h := joinC_len a b
  have e : (joinC a b).f0 = a.f0 + b.f0 := rfl
  obtain ⟨x1, x2⟩ := hx
  obtain ⟨y1, y2⟩ := hy
  unfold inC
  rw [h, e]
  push_cast
  omega
/-- A price at a number. -/
theorem price_at {c : S24} (hs : sortedI c.f2 = true) {x : Int} (hx : inC c x) : ∃ p, (∀ s ∈ c.f2.take (x - c.f0).toNat, s ≤ p) ∧ (∀ s ∈ c.f2.drop (x - c.f0).toNat, p ≤ s) := by
  obtain ⟨x1, x2⟩ := hx
  obtain ⟨k, hk⟩ := Int.eq_ofNat_of_zero_le (show 0 ≤ x - c.f0 by omega)
  rw [hk, Int.toNat_natCast]
  by_cases h : k < c.f2.length
  · refine ⟨rd c.f2 (k : Int), fun s h1 => ?_, fun s h1 => ?_⟩
    · obtain ⟨i, i1, i2, rfl⟩ := mem_take_rd h1
      exact sorted_rd hs (by omega) (by omega)
    · obtain ⟨i, i1, i2, rfl⟩ := mem_drop_rd h1
      exact sorted_rd hs (by omega) (by omega)
  · have e : k = c.f2.length := by omega
    by_cases h0 : k = 0
    · subst h0
      refine ⟨0, fun s h1 => by simp at h1, fun s h1 => ?_⟩
      rw [List.drop_of_length_le (by omega)] at h1
      simp at h1
    · refine ⟨rd c.f2 ((k - 1 : Nat) : Int), fun s h1 => ?_, fun s h1 => ?_⟩
      · obtain ⟨i, i1, i2, rfl⟩ := mem_take_rd h1
        exact sorted_rd hs (by omega) (by omega)
      · rw [List.drop_of_length_le (by omega)] at h1
        simp at h1
theorem join_le {a b : S24} {x y : Int} (hx : inC a x) (hy : inC b y) : valC (joinC a b) (x + y) ≤ valC a x + valC b y := by
  have hj := join_in hx hy
  obtain ⟨p, p1, p2⟩ := price_at (c := joinC a b) (sortL_sorted _) hj
  have h := young_eq hj p1 p2
  have h1 := young p hx
  have h2 := young p hy
  rw [gC_join, Int.mul_add] at h
  omega
/-- How many are below. -/
def cnt (p : Int) (l : List Int) : Nat := l.countP fun s => decide (s < p)
theorem cnt_none {p : Int} {l : List Int} (h : ∀ s ∈ l, p ≤ s) : cnt p l = 0 := by
  unfold cnt
  rw [List.countP_eq_zero]
  intro s hs
  have := h s hs
  simp only [decide_eq_true_eq]
  omega
theorem cnt_all {p : Int} {l : List Int} (h : ∀ s ∈ l, s < p) : cnt p l = l.length := by
  unfold cnt
  rw [List.countP_eq_length]
  intro s hs
  simpa using h s hs
theorem cnt_le (p : Int) (l : List Int) : cnt p l ≤ l.length := List.countP_le_length
theorem cnt_split (p : Int) (l : List Int) (k : Nat) : cnt p l = cnt p (l.take k) + cnt p (l.drop k) := by
  unfold cnt
  rw [← List.countP_append, List.take_append_drop]
theorem cnt_append (p : Int) (a b : List Int) : cnt p (a ++ b) = cnt p a + cnt p b := by
  unfold cnt
  rw [List.countP_append]
theorem cnt_perm (p : Int) {a b : List Int} (h : a.Perm b) : cnt p a = cnt p b := by
  unfold cnt
  exact h.countP_eq _
/-- In an ordered list the counts part it. -/
theorem cnt_parts {l : List Int} (h : sortedI l = true) (p : Int) : (∀ s ∈ l.take (cnt p l), s < p) ∧ (∀ s ∈ l.drop (cnt p l), p ≤ s) := by
  obtain ⟨k, h1, h2, h3⟩ := parts_at h p
  have e : cnt p l = k := by
    rw [cnt_split p l k, cnt_all h2, cnt_none h3, List.length_take]
    omega
  rw [e]
  exact ⟨h2, h3⟩
theorem join_met {a b : S24} (ha : sortedI a.f2 = true) (hb : sortedI b.f2 = true) {z : Int} (hz : inC (joinC a b) z) : ∃ x, inC a x ∧ inC b (z - x) ∧ valC a x + valC b (z - x) = valC (joinC a b) z := by
  obtain ⟨p, p1, p2⟩ := price_at (c := joinC a b) (sortL_sorted _) hz
  have h := young_eq hz p1 p2
  have hlen := joinC_len a b
  have e0 : (joinC a b).f0 = a.f0 + b.f0 := rfl
  obtain ⟨z1, z2⟩ := hz
  obtain ⟨k, hk⟩ := Int.eq_ofNat_of_zero_le (show 0 ≤ z - (joinC a b).f0 by omega)
  rw [hk, Int.toNat_natCast] at p1 p2
  have c1 : cnt p (joinC a b).f2 ≤ k := by
    have := cnt_le p ((joinC a b).f2.take k)
    rw [cnt_split p _ k, cnt_none p2]
    rw [List.length_take] at this
    omega
  have c2 : k ≤ cnt (p + 1) (joinC a b).f2 := by
    rw [cnt_split (p + 1) _ k, cnt_all (p := p + 1) (l := (joinC a b).f2.take k) (fun s hs => by have := p1 s hs; omega), List.length_take]
    omega
  have s1 : ∀ q, cnt q (joinC a b).f2 = cnt q a.f2 + cnt q b.f2 := fun q => by
    rw [← cnt_append]
    exact cnt_perm q (sortL_perm _)
  rw [s1] at c1 c2
  have la := cnt_le (p + 1) a.f2
  have lb := cnt_le (p + 1) b.f2
  obtain ⟨u1, u2⟩ := cnt_parts ha p
  obtain ⟨u3, u4⟩ := cnt_parts ha (p + 1)
  obtain ⟨v1, v2⟩ := cnt_parts hb p
  obtain ⟨v3, v4⟩ := cnt_parts hb (p + 1)
  have m1 : cnt p a.f2 ≤ cnt (p + 1) a.f2 := by
    unfold cnt
    exact List.countP_mono_left (fun x _ hx => by simp only [decide_eq_true_eq] at *; omega)
  have m2 : cnt p b.f2 ≤ cnt (p + 1) b.f2 := by
    unfold cnt
    exact List.countP_mono_left (fun x _ hx => by simp only [decide_eq_true_eq] at *; omega)
  obtain ⟨i, j, i1, i2, j1, j2, ij⟩ : ∃ i j, cnt p a.f2 ≤ i ∧ i ≤ cnt (p + 1) a.f2 ∧ cnt p b.f2 ≤ j ∧ j ≤ cnt (p + 1) b.f2 ∧ i + j = k := by
    by_cases hh : cnt p a.f2 + cnt (p + 1) b.f2 ≤ k
    · exact ⟨k - cnt (p + 1) b.f2, cnt (p + 1) b.f2, by omega, by omega, by omega, by omega, by omega⟩
    · exact ⟨cnt p a.f2, k - cnt p a.f2, by omega, by omega, by omega, by omega, by omega⟩
  have ta : ∀ s ∈ a.f2.take i, s ≤ p := fun s hs => by
    obtain ⟨n, n1, n2, rfl⟩ := mem_take_rd hs
    have := u3 _ (rd_mem_take (k := cnt (p + 1) a.f2) (by omega) n2)
    omega
  have da : ∀ s ∈ a.f2.drop i, p ≤ s := fun s hs => by
    obtain ⟨n, n1, n2, rfl⟩ := mem_drop_rd hs
    exact u2 _ (rd_mem_drop (k := cnt p a.f2) (by omega) n2)
  have tb : ∀ s ∈ b.f2.take j, s ≤ p := fun s hs => by
    obtain ⟨n, n1, n2, rfl⟩ := mem_take_rd hs
    have := v3 _ (rd_mem_take (k := cnt (p + 1) b.f2) (by omega) n2)
    omega
  have db : ∀ s ∈ b.f2.drop j, p ≤ s := fun s hs => by
    obtain ⟨n, n1, n2, rfl⟩ := mem_drop_rd hs
    exact v2 _ (rd_mem_drop (k := cnt p b.f2) (by omega) n2)
  have ina : inC a (a.f0 + (i : Int)) := ⟨by omega, by omega⟩
  have inb : inC b (z - (a.f0 + (i : Int))) := ⟨by omega, by omega⟩
  have ea : (a.f0 + (i : Int) - a.f0).toNat = i := by omega
  have eb : (z - (a.f0 + (i : Int)) - b.f0).toNat = j := by omega
  have g1 := young_eq ina (p := p) (by rw [ea]; exact ta) (by rw [ea]; exact da)
  have g2 := young_eq inb (p := p) (by rw [eb]; exact tb) (by rw [eb]; exact db)
  refine ⟨_, ina, inb, ?_⟩
  rw [gC_join] at h
  rw [Int.mul_sub] at g2
  omega
end Go.Proofs.Ytingjpcgehgiiaa.Pr
end
section
namespace Go.Proofs.Ytingjpcgehgiiaa.Pr
open Go.RowKit Go.Proofs.YtingjpcgehgiiaaW.PrintWords Go.Proofs.YtingjpcgehgiiaaW.PrintLast Go.Proofs.YtingjpcgehgiiaaW.PrintMore
set_option linter.unusedVariables false
set_option linter.unusedSimpArgs false
def difL (vs : List Int) (n : Nat) : List Int := (List.range n).map fun i : Nat => rd vs ((i + 1 : Nat) : Int) - rd vs (i : Int)
theorem difL_len (vs : List Int) (n : Nat) : (difL vs n).length = n := by unfold difL; rw [List.length_map, List.length_range]
theorem difL_succ (vs : List Int) (n : Nat) : difL vs (n + 1) = difL vs n ++ [rd vs ((n + 1 : Nat) : Int) - rd vs (n : Int)] := by
  unfold difL
  rw [List.range_succ, List.map_append]
  rfl
theorem made_f (c : S24) : curve_made.f c.f0 c.f1 c.f2 = some (if Vc c then (c.f0, c.f1, c.f2, 0) else (0, 0, [], 4)) := by
  unfold curve_made.f
  rw [valid_f c, Option.bind_some]
  by_cases h : Vc c
  · rw [if_pos (decide_eq_true h), if_pos h]
  · rw [decide_eq_false h, if_neg (by simp), if_neg h]
/-- What Conj returns. -/
def conOk (c : S24) (lo hi : Int) : Prop := Vc c ∧ -1048576 ≤ lo ∧ lo ≤ hi ∧ hi ≤ lo + 64 ∧ hi ≤ 1048576
instance (c : S24) (lo hi : Int) : Decidable (conOk c lo hi) := inferInstanceAs (Decidable (_ ∧ _))
end Go.Proofs.Ytingjpcgehgiiaa.Pr
end
section
namespace Go.Proofs.Ytingjpcgehgiiaa.Pr
open Go.RowKit Go.Proofs.YtingjpcgehgiiaaW.PrintWords Go.Proofs.YtingjpcgehgiiaaW.PrintLast Go.Proofs.YtingjpcgehgiiaaW.PrintMore
set_option linter.unusedVariables false
set_option linter.unusedSimpArgs false
theorem succ_w64 {i : Nat} (h : i ≤ 9223372036854775806) : wrap64 ((i : Int) + 1) = ((i + 1 : Nat) : Int) := by unfold wrap64; omega
theorem pred_w64 {i : Nat} (h : i ≤ 9223372036854775806) : wrap64 (((i + 1 : Nat) : Int) - 1) = (i : Int) := by unfold wrap64; omega
theorem same_loop (l : List Int) (hn : l.length ≤ 9223372036854775807) : ∀ (d i : Nat), l.length - i = d → Ev (fun k => kimberlitelaw03_same.l0 k l l (i : Int)) true
  | 0, i, h => Ev.step (f := fun _ => some true) (fun k => by simp only [kimberlitelaw03_same.l0]; rw [if_neg (by omega)]) (Ev.now _)
  | d + 1, i, h => by
    have ew : wrap64 ((i : Int) + 1) = ((i + 1 : Nat) : Int) := by unfold wrap64; omega
    refine Ev.step (fun k => ?_) (same_loop l hn d (i + 1) (by omega))
    simp only [kimberlitelaw03_same.l0]
    rw [if_pos (show (i : Int) < (l.length : Int) by omega), if_pos (show 0 ≤ (i : Int) by omega), if_pos (show (i : Int) < (l.length : Int) by omega), if_pos trivial, ew]
theorem same_ev (l : List Int) (hn : l.length ≤ 9223372036854775807) : Ev (fun k => kimberlitelaw03_same.f k l l) true := by
  unfold kimberlitelaw03_same.f
  exact Ev.congr (fun k => if_pos rfl) (same_loop l hn _ 0 rfl)
theorem alike_ev (a0 a1 : Int) (l : List Int) (hn : l.length ≤ 9223372036854775807) : Ev (fun k => kimberlitelaw03_alike.f k a0 a1 l a0 a1 l) true := by
  unfold kimberlitelaw03_alike.f
  exact Ev.congr (fun k => if_pos rfl) (Ev.congr (fun k => if_pos rfl) (Ev.bind (same_ev l hn) (Ev.now _)))
theorem Ev.two {α : Type} {g f : Nat → Option α} {r : α} (h : ∀ k, g (k + 2) = f k) (k : Ev f r) : Ev g r := by
  obtain ⟨K, hK⟩ := k
  refine ⟨K + 2, fun n hn => ?_⟩
  obtain ⟨m, rfl⟩ : ∃ m, n = m + 2 := ⟨n - 2, by omega⟩
  rw [h]
  exact hK m (by omega)
end Go.Proofs.Ytingjpcgehgiiaa.Pr
end
