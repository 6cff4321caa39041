/- What the proof of the law needs, trimmed and merged by wip/pack.py out of the texts YtingjpcgehgiiaaWalkCurveValues, YtingjpcgehgiiaaRowCurveValues. No condition. -/
import Derived.Test.YtingjpcgehgiiaaRows
import Derived.WalkKit
import Derived.ProofKit
import Derived.OpenShut
import Derived.ShutString
import Derived.ChangeOld
import Derived.Below
import Derived.SizedLaws
import Derived.Test.YtingjpcgehgiiaaKCurveValues0
import Derived.Test.YtingjpcgehgiiaaKCurveValues1
import Derived.Test.YtingjpcgehgiiaaKCurveValues2
import Derived.Test.YtingjpcgehgiiaaKCurveValues3
import Derived.Test.YtingjpcgehgiiaaKCurveValues4
import Derived.Test.YtingjpcgehgiiaaKCurveValues5
import Derived.Test.YtingjpcgehgiiaaKCurveValues6
section
namespace Go.Proofs.Ytingjpcgehgiiaa.Pr
open Go.RowKit Go.Proofs.YtingjpcgehgiiaaW.PrintWords Go.Proofs.YtingjpcgehgiiaaW.PrintLast Go.Proofs.YtingjpcgehgiiaaW.PrintMore
set_option linter.unusedVariables false
set_option linter.unusedSimpArgs false
/-- The difference at an index. -/
def dif (l : List Int) (j : Nat) : Int := rd l ((j + 1 : Nat) : Int) - rd l (j : Int)
theorem difL_rd (l : List Int) (n j : Nat) (h : j < n) : rd (difL l n) (j : Int) = dif l j := by
  rw [rd_nat _ _ (by rw [difL_len]; exact h)]
  unfold difL
  rw [List.getElem_map, List.getElem_range]
  rfl
/-- All values are within the bounds. -/
def allW (l : List Int) : Prop := ∀ j : Nat, j < l.length → -1099511627776 ≤ rd l (j : Int) ∧ rd l (j : Int) ≤ 1099511627776
theorem any_of_bad {l : List Int} {i : Nat} (hi : i < l.length) (h : rd l (i : Int) < -1099511627776 ∨ 1099511627776 < rd l (i : Int)) : l.any (fun s => !inB s 1099511627776) = true := by
  rw [List.any_eq_true]
  refine ⟨l[i], List.getElem_mem hi, ?_⟩
  rw [rd_nat l i hi] at h
  unfold inB
  rw [Bool.not_eq_true', Bool.and_eq_false_iff, decide_eq_false_iff_not, decide_eq_false_iff_not]
  omega
theorem any_of_all {l : List Int} (h : allW l) : ¬l.any (fun s => !inB s 1099511627776) = true := by
  rw [List.any_eq_true]
  rintro ⟨s, hs, hb⟩
  obtain ⟨j, hj, rfl⟩ := List.mem_iff_getElem.1 hs
  have := h j hj
  rw [rd_nat l j hj] at this
  unfold inB at hb
  rw [Bool.not_eq_true', Bool.and_eq_false_iff, decide_eq_false_iff_not, decide_eq_false_iff_not] at hb
  omega
theorem two_w64 {i : Nat} (h : i ≤ 9223372036854775805) : wrap64 (((i + 2 : Nat) : Int) - 2) = (i : Int) ∧ wrap64 (((i + 2 : Nat) : Int) - 1) = ((i + 1 : Nat) : Int) := by unfold wrap64; omega
theorem dif_w {l : List Int} (h : allW l) {j : Nat} (hj : j + 1 < l.length) : wrap64 (rd l ((j + 1 : Nat) : Int) - rd l (j : Int)) = dif l j := by
  have a := h j (by omega)
  have b := h (j + 1) hj
  unfold dif
  unfold wrap64
  omega
theorem of_l1_step (a0 : Int) {l : List Int} (h : allW l) {i : Nat} (hi : i + 2 < l.length) (hl : l.length ≤ 100) (k : Nat) : kimberliteref03_Of.l1 (k + 1) a0 l ((i + 2 : Nat) : Int) = if dif l (i + 1) < dif l i then some (0, 0, [], 10) else kimberliteref03_Of.l1 k a0 l ((i + 3 : Nat) : Int) := by
  obtain ⟨e1, e2⟩ := two_w64 (i := i) (by omega)
  have e3 := succ_w64 (i := i + 2) (by omega)
  have d1 := dif_w h (j := i + 1) (by omega)
  have d2 := dif_w h (j := i) (by omega)
  have q1 : ((i + 2 : Nat) : Int) < (l.length : Int) := by omega
  have q2 : (0 : Int) ≤ ((i + 2 : Nat) : Int) := by omega
  have q3 : (0 : Int) ≤ ((i + 1 : Nat) : Int) := by omega
  have q4 : ((i + 1 : Nat) : Int) < (l.length : Int) := by omega
  have q5 : (0 : Int) ≤ (i : Int) := by omega
  have q6 : (i : Int) < (l.length : Int) := by omega
  simp only [kimberliteref03_Of.l1]
  rw [e1, e2, if_pos q1, if_pos q2, if_pos q3, if_pos q4, if_pos q5, if_pos q6, d1, d2, e3]
theorem of_l1 (a0 : Int) {l : List Int} (h : allW l) (h0 : 0 < l.length) (hl : l.length ≤ 65) : ∀ (n i : Nat), i + 2 + n = l.length + 1 ∨ (n = 0 ∧ l.length ≤ i + 2) → (∀ j, j < i → j + 2 < l.length → dif l j ≤ dif l (j + 1)) →
    Ev (fun k => kimberliteref03_Of.l1 k a0 l ((i + 2 : Nat) : Int)) (if sortedI (difL l (l.length - 1)) = true then (if validC a0 (rd l 0) (difL l (l.length - 1)) = true then (a0, rd l 0, difL l (l.length - 1), 0) else (0, 0, [], 4)) else (0, 0, [], 10))
  | 0, i, hi, hall => by
    have hs : sortedI (difL l (l.length - 1)) = true := sortedI_of fun j hj => by
      rw [difL_len] at hj
      rw [difL_rd _ _ _ (by omega), difL_rd _ _ _ (by omega)]
      exact hall j (by omega) (by omega)
    rw [if_pos hs]
    have hr := ranged_ev a0 l h0 (by omega) (fun j hj => by
      have a := h j (by omega)
      have b := h (j + 1) hj
      omega)
    refine Ev.step (f := fun k => (kimberliteref03_ranged.f k a0 l).bind fun bt200 => some (bt200.1, bt200.2.1, bt200.2.2.1, bt200.2.2.2)) (fun k => ?_) (Ev.bind hr ?_)
    · simp only [kimberliteref03_Of.l1]
      rw [if_neg (by omega)]
    · by_cases hv : Vc (thrC a0 l)
      · rw [if_pos hv, if_pos (show validC a0 (rd l 0) (difL l (l.length - 1)) = true from hv)]
        exact Ev.now _
      · rw [if_neg hv, if_neg (show ¬validC a0 (rd l 0) (difL l (l.length - 1)) = true from hv)]
        exact Ev.now _
  | n + 1, i, hi, hall => by
    by_cases hlt : i + 2 < l.length
    · by_cases hd : dif l (i + 1) < dif l i
      · have hs : ¬sortedI (difL l (l.length - 1)) = true := fun hs => by
          have := sortedI_at hs (j := i) (by rw [difL_len]; omega)
          rw [difL_rd _ _ _ (by omega), difL_rd _ _ _ (by omega)] at this
          omega
        rw [if_neg hs]
        exact Ev.step (f := fun _ => some (0, 0, [], 10)) (fun k => (of_l1_step a0 h hlt (by omega) k).trans (if_pos hd)) (Ev.now _)
      · refine Ev.step (fun k => (of_l1_step a0 h hlt (by omega) k).trans (if_neg hd)) (of_l1 a0 h h0 hl n (i + 1) (by omega) (fun j hj h2 => ?_))
        by_cases e : j = i
        · subst e; omega
        · exact hall j (by omega) h2
    · exact of_l1 a0 h h0 hl 0 i (.inr ⟨rfl, by omega⟩) hall
theorem of_l0 (a0 : Int) {l : List Int} (h0 : 0 < l.length) (hl : l.length ≤ 65) : ∀ (n i : Nat), i + n = l.length → (∀ j : Nat, j < i → -1099511627776 ≤ rd l (j : Int) ∧ rd l (j : Int) ≤ 1099511627776) →
    Ev (fun k => kimberliteref03_Of.l0 k a0 l (i : Int)) (ofR a0 l)
  | 0, i, hi, hall => by
    have ha : allW l := fun j hj => hall j (by omega)
    have h1 := of_l1 a0 ha h0 hl (l.length - 1) 0 (by omega) (fun j hj => by omega)
    unfold ofR
    rw [if_neg (by omega), if_neg (by omega), if_neg (any_of_all ha)]
    refine Ev.step (fun k => ?_) h1
    simp only [kimberliteref03_Of.l0]
    rw [if_neg (by omega)]
    rfl
  | n + 1, i, hi, hall => by
    have e2 := succ_w64 (i := i) (by omega)
    have q1 : (i : Int) < (l.length : Int) := by omega
    have q2 : 0 ≤ (i : Int) := by omega
    by_cases hb : rd l (i : Int) < -1099511627776 ∨ 1099511627776 < rd l (i : Int)
    · unfold ofR
      rw [if_neg (by omega), if_neg (by omega), if_pos (any_of_bad (by omega) hb)]
      refine Ev.two (f := fun _ => some (0, 0, [], 2)) (fun k => ?_) (Ev.now _)
      simp only [kimberliteref03_Of.l0]
      rw [if_pos q1, if_pos q2]
      by_cases h1 : rd l (i : Int) < -1099511627776
      · rw [if_pos h1]
        simp only [kimberliteref03_Of.j1]
        rw [if_pos trivial]
      · rw [if_neg h1, decide_eq_true (show rd l (i : Int) > 1099511627776 by omega)]
        simp only [kimberliteref03_Of.j1]
        rw [if_pos trivial]
    · have b1 : ¬rd l (i : Int) < -1099511627776 := fun h => hb (.inl h)
      have b2 : ¬rd l (i : Int) > 1099511627776 := fun h => hb (.inr h)
      refine Ev.two (fun k => ?_) (of_l0 a0 h0 hl n (i + 1) (by omega) (fun j hj => ?_))
      · simp only [kimberliteref03_Of.l0]
        rw [if_pos q1, if_pos q2, if_neg b1, decide_eq_false b2]
        simp only [kimberliteref03_Of.j1]
        rw [if_neg (by simp), e2]
      · by_cases e : j = i
        · subst e; omega
        · exact hall j (by omega)
theorem rOf_ev (a0 : Int) (l : List Int) : Ev (fun k => kimberliteref03_Of.f k a0 l) (ofR a0 l) := by
  unfold kimberliteref03_Of.f
  by_cases h1 : (l.length : Int) > 65
  · unfold ofR
    rw [if_pos (by omega)]
    exact Ev.congr (f := fun _ => some _) (fun k => if_pos h1) (Ev.now _)
  refine Ev.congr (fun k => if_neg h1) ?_
  by_cases h2 : (l.length : Int) = 0
  · unfold ofR
    rw [if_neg (by omega), if_pos (by omega)]
    exact Ev.congr (f := fun _ => some _) (fun k => if_pos h2) (Ev.now _)
  refine Ev.congr (fun k => if_neg h2) ?_
  exact of_l0 a0 (by omega) (by omega) l.length 0 (by omega) (fun j hj => by omega)
theorem ofR_len (a0 : Int) (l : List Int) : (ofR a0 l).2.2.1.length ≤ 64 := by
  unfold ofR
  by_cases h1 : 65 < l.length
  · rw [if_pos h1]; simp
  by_cases h2 : l.length = 0
  · rw [if_neg h1, if_pos h2]; simp
  rw [if_neg h1, if_neg h2]
  split
  · simp
  · split
    · split
      · show (difL l (l.length - 1)).length ≤ 64
        rw [difL_len]
        omega
      · simp
    · simp
/-- From the copied values on. -/
theorem values_end (c : S24) (hf : c.f2.length ≤ 100) (a0 : Int) (l : List Int) (hl : l.length ≤ 100) : Ev (fun k => (curve_Of.f k a0 l).bind fun bt779 => ((kimberliteref03_Of.f k a0 l).bind fun bt786 => ((kimberlitelaw03_told.f k bt779.1 bt779.2.1 bt779.2.2.1 bt779.2.2.2 bt786.1 bt786.2.1 bt786.2.2.1 bt786.2.2.2).bind fun bt793 => (if bt793.1 = true then ((kimberlitelaw03_same.f k l l).bind fun t795 => (if t795 = true then ((kimberlitelaw03_alike.f k c.f0 c.f1 c.f2 c.f0 c.f1 c.f2).bind fun t796 => (if t796 = true then ((kimberlitelaw03_alive.f).bind fun t797 => (some t797)) else (some false))) else (some false))) else (some false))))) true := by
  obtain ⟨r, hr⟩ := told_ev (ofR a0 l).1 (ofR a0 l).2.1 (ofR a0 l).2.2.1 (ofR a0 l).2.2.2 (Nat.le_trans (ofR_len a0 l) (by decide))
  refine Ev.bind (g := fun k => curve_Of.f k a0 l) (Ev.now (ofR a0 l)) (Ev.bind (rOf_ev a0 l) (Ev.bind hr (Ev.congr (fun k => if_pos rfl) (Ev.bind (same_ev l (by omega)) (Ev.congr (fun k => if_pos rfl) (Ev.bind (alike_ev c.f0 c.f1 c.f2 (by omega)) (Ev.congr (f := fun _ => some true) (fun k => if_pos rfl) (Ev.now _))))))))
theorem values_loop (c : S24) (hf : c.f2.length ≤ 100) (a0 : Int) (l : List Int) (hl : l.length ≤ 100) : ∀ (n i : Nat) (x : List Int), i + n = l.length → x.length = l.length → (∀ j, j < i → x[j]? = l[j]?) → Ev (fun k => kimberlitelaw03_CurveValues.l0 k a0 l x (i : Int) c.f0 c.f1 c.f2 c.f0 c.f1 c.f2) true
  | 0, i, x, hi, hx, hj => by
    have e : x = l := List.ext_getElem? fun j => by
      by_cases h1 : j < i
      · exact hj j h1
      · rw [List.getElem?_eq_none (by omega), List.getElem?_eq_none (by omega)]
    subst e
    refine Ev.step (fun k => ?_) (values_end c hf a0 x hl)
    simp only [kimberlitelaw03_CurveValues.l0]
    rw [if_neg (by omega)]
  | n + 1, i, x, hi, hx, hj => by
    have e2 := succ_w64 (i := i) (by omega)
    have q1 : (i : Int) < (l.length : Int) := by omega
    have q2 : 0 ≤ (i : Int) := by omega
    have q3 : (i : Int) < (x.length : Int) := by omega
    refine Ev.step (fun k => ?_) (values_loop c hf a0 l hl n (i + 1) (x.set i (rd l (i : Int))) (by omega) (by rw [List.length_set]; exact hx) (fun j hj2 => ?_))
    · simp only [kimberlitelaw03_CurveValues.l0]
      rw [if_pos q1, if_pos q2, if_pos q3, e2, Int.toNat_natCast]
    · rw [List.getElem?_set]
      by_cases e : i = j
      · subst e
        rw [if_pos rfl, if_pos (by omega), rd_nat _ _ (by omega), List.getElem?_eq_getElem (by omega)]
      · rw [if_neg e]
        exact hj j (by omega)
theorem CurveValues_pure (c : S24) (x a0 : Int) (l : List Int) : ∃ k, kimberlitelaw03_CurveValues.f k c.f0 c.f1 c.f2 x a0 l = some true := by
  refine Ev.rounds ?_
  unfold kimberlitelaw03_CurveValues.f kimberlitelaw03_few.f
  refine Ev.congr (fun k => Option.bind_some _ _) ?_
  have skip : Ev (fun k => kimberlitelaw03_CurveValues.j0 k x a0 l true c.f0 c.f1 c.f2) true := Ev.step (f := fun _ => some true) (fun k => by simp only [kimberlitelaw03_CurveValues.j0]; rw [if_pos trivial]; rfl) (Ev.now _)
  by_cases hf : (c.f2.length : Int) ≤ 100
  · rw [decide_eq_true hf]
    refine Ev.congr (fun k => if_pos rfl) ?_
    by_cases hl : (l.length : Int) > 100
    · rw [decide_eq_true hl]
      exact skip
    · rw [decide_eq_false hl]
      refine Ev.step (fun k => by simp only [kimberlitelaw03_CurveValues.j0]; rw [if_neg (by simp)]) (Ev.bind (own_ev c (by omega)) ?_)
      simp only
      rw [At_f c x]
      refine Ev.congr (fun k => Option.bind_some _ _) (Ev.bind (rAt_ev c x) (Ev.congr (fun k => if_pos rfl) (Ev.congr (fun k => if_pos rfl) ?_)))
      rw [valid_f c]
      refine Ev.congr (fun k => Option.bind_some _ _) (Ev.bind (rvalid_ev c) ?_)
      rw [show (decide (Vc c) != decide (Vc c)) = false by simp]
      have hgo := values_loop c (by omega) a0 l (by omega) l.length 0 (List.replicate l.length 0) (by omega) (by rw [List.length_replicate]) (fun j hj => by omega)
      refine Ev.step (fun k => ?_) hgo
      simp only [kimberlitelaw03_CurveValues.j1]
      rw [if_neg (by simp), if_pos (by omega), if_pos (by omega), Int.toNat_natCast]
      rfl
  · rw [decide_eq_false hf]
    exact Ev.congr (fun k => if_neg (by simp)) skip
theorem CurveValues_walk {W : World} (x0 : S24) (a0 : Option Addr) (cap0 : Nat) (c0 : x0.f2.length ≤ cap0) (hr0 : Kd.C (Kd.int .i64) W a0 x0.f2.length x0.f2) (w0 : okC x0) (a1 : Int) (b1 : (Lit.int .i64 a1).wf = true) (a2 : Int) (b2 : (Lit.int .i64 a2).wf = true) (a3 : Option Addr) (cap3 : Nat) (l3 : List Int) (c3 : l3.length ≤ cap3) (hr3 : Kd.C (Kd.int .i64) W a3 l3.length l3) (w3 : ∀ s ∈ l3, (Lit.int .i64 s).wf = true) :
    Calls Try.prog 8 #[.agg #[.int .i64 x0.f0, .int .i64 x0.f1, .slice a0 x0.f2.length cap0], .int .i64 a1, .int .i64 a2, .slice a3 l3.length cap3] W fun e w' => e = .returned (.bool true) ∧ Below W.heap.size W w' := by
  obtain ⟨k, h⟩ := CurveValues_pure x0 a1 a2 l3
  exact kimberlitelaw03_CurveValues.calls k _ _ _ _ x0.f2 a1 a2 _ _ l3 true W hr0 c0 hr3 c3 h
end Go.Proofs.Ytingjpcgehgiiaa.Pr
end
section
namespace Go.Proofs.Ytingjpcgehgiiaa.curveValues
open Go.ChangeShapes Go.WideShapes Go.ChangeAt Go.RowKit Go.Proofs.Ytingjpcgehgiiaa.Pr
set_option linter.unusedVariables false
theorem own : ownKnob Try.prog.godebug = none := by kernel_rfl
theorem laidOut : laidOutB Try.prog = true := by kernel_rfl
set_option maxRecDepth 100000 in
theorem lifted (os : Os) (started : os.Started) (H : Type) (enc : TypeId × Value → H) :
    ReturnsInHanded {} Try.checked os 8 .any (Rows.curveValuesSpec.pre6 enc Try.prog Try.f8 Rows.curveValuesRow.domain false) (Rows.curveValuesSpec.post enc Try.prog Try.f8 false true false false) := by
  refine returnsInHanded_of_change (C := Try.checked) own started (by kernel_rfl) Try.func8
    (ChangeSpec.witness6 (enc := enc) (C := Try.checked) false ⟨#[], #[.agg #[.int .i64 0, .int .i64 0, .slice none 0 0], .int .i64 0, .int .i64 0, .slice none 0 0], []⟩ 8 (by kernel_rfl) (by kernel_rfl) (by kernel_rfl) (by kernel_rfl)) ?_
  intro W base args ds gs before hval0 hW hcnd _
  have hval : ∀ (j : Nat) t v, Try.f8.params[j]? = some t → args[j]? = some v → Value.okWide Try.prog W .any base t v := hval0
  have hW' := hW
  obtain ⟨p, q, hA0, hV, rfl, hfz, hnd⟩ := hW
  have hA : DataW.TrodAll enc Try.prog W 0 (fun _ => true) true Try.f8.params.toList args.toList ds p := hA0
  rw [Try.params8] at hA hval
  obtain ⟨v0, vs0, d0, ds0, p0, q0, hargs, rfl, rfl, h0, r0⟩ := trodAll_cons hA
  obtain ⟨v1, vs1, d1, ds1, p1, q1, rfl, rfl, rfl, h1, r1⟩ := trodAll_cons r0
  obtain ⟨v2, vs2, d2, ds2, p2, q2, rfl, rfl, rfl, h2, r2⟩ := trodAll_cons r1
  obtain ⟨v3, vs3, d3, ds3, p3, q3, rfl, rfl, rfl, h3, r3⟩ := trodAll_cons r2
  obtain ⟨rfl, rfl, rfl⟩ := trodAll_nil r3
  obtain rfl : args = #[v0, v1, v2, v3] := by cases args; simp_all
  obtain ⟨rfl, rfl⟩ := trodVars_none hV
  have k0 := h0
  have lt0 : ∀ x ∈ p0, x.block < W.heap.size := by obtain ⟨m, hm⟩ := k0; exact DataW.trod_lt m _ _ _ hm
  obtain ⟨x0, a0, cap0, rfl, c0, hr0, w0⟩ := open_curve (hval 0 24 v0 rfl rfl) h0
  obtain ⟨a1, rfl, rfl, rfl, w1⟩ := open_int Try.underlying3 (hval 1 3 v1 rfl rfl) h1
  obtain ⟨a2, rfl, rfl, rfl, w2⟩ := open_int Try.underlying3 (hval 2 3 v2 rfl rfl) h2
  have k3 := h3
  have lt3 : ∀ x ∈ p3, x.block < W.heap.size := by obtain ⟨m, hm⟩ := k3; exact DataW.trod_lt m _ _ _ hm
  obtain ⟨a3, len3, cap3, rfl⟩ := okWide_slice Try.underlying22 (hval 3 22 v3 rfl rfl)
  obtain ⟨l3, rfl, c3, hr3, w3⟩ := open_nums h3
  clear hA0 hval0
  try simp only [List.append_nil] at hW'
  refine (CurveValues_walk x0 a0 cap0 c0 hr0 w0 a1 w1 a2 w2 a3 cap3 l3 c3 hr3 w3).mono fun e W' ⟨he, bel⟩ => ?_
  subst he
  exact ⟨_, rfl, _, _, _, [], _, [], hW', trodAll_mk1 (shut_bool Try.underlying4 _), (trodAll_cons_mk (Below.trod laidOut (by kernel_rfl) (of_decide_eq_true (by kernel_rfl)) k0 bel lt0) (trodAll_cons_mk (shut_int Try.underlying3 w1) (trodAll_cons_mk (shut_int Try.underlying3 w2) (trodAll_cons_mk (Below.trod laidOut (by kernel_rfl) (of_decide_eq_true (by kernel_rfl)) k3 bel lt3) trodAll_mk0)))), rfl, bel.frame _, fun h => by cases h⟩
theorem over : Rows.curveValuesRow.holds Try.pinned (OpenSpec.ofChange Rows.curveValuesSpec) :=
  OpenClaim.holds_of_wide 8 Try.f8 rfl rfl rfl rfl rfl rfl rfl ⟨rfl, rfl, rfl, rfl, rfl⟩ rfl rfl rfl rfl rfl (by kernel_rfl) Try.func8 (by kernel_rfl)
    (of_decide_eq_true (by kernel_rfl)) (by unfold Func.isWrapper; first | (rw [if_pos (by decide +kernel)]; kernel_rfl) | (rw [if_neg (by decide +kernel)]; exact ⟨rfl, rfl⟩))
    (fun os started H enc _ => lifted os started H enc)
theorem proved : Rows.CurveValuesSaid := over
end Go.Proofs.Ytingjpcgehgiiaa.curveValues
namespace Go.Proofs.Ytingjpcgehgiiaa
/-- The row, under a short name, for the claim. -/
theorem curveValues_holds : Rows.CurveValuesSaid := curveValues.proved
end Go.Proofs.Ytingjpcgehgiiaa
end
