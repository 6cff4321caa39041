/- What the proof of the law needs, trimmed and merged by wip/pack.py out of the texts YtningpmoojnomaaWalkSpanLaid, YtningpmoojnomaaRowSpanLaid. No condition. -/
import Derived.Test.YtningpmoojnomaaRows
import Derived.WalkKit
import Derived.ProofKit
import Derived.OpenShut
import Derived.ShutString
import Derived.ChangeOld
import Derived.Below
import Derived.SizedLaws
import Derived.Test.YtningpmoojnomaaKSpanLaid0
import Derived.Test.YtningpmoojnomaaKSpanLaid1
import Derived.Test.YtningpmoojnomaaKSpanLaid2
import Derived.Test.YtningpmoojnomaaKSpanLaid3
import Derived.Test.YtningpmoojnomaaKSpanLaid4
import Derived.Test.YtningpmoojnomaaKSpanLaid5
import Derived.Test.YtningpmoojnomaaKSpanLaid6
import Derived.Test.YtningpmoojnomaaKSpanLaid7
import Derived.Test.YtningpmoojnomaaKSpanLaid8
section
namespace Go.Proofs.Ytningpmoojnomaa.Pr
open Go.RowKit Go.Proofs.YtningpmoojnomaaW.PrintWords Go.Proofs.YtningpmoojnomaaW.PrintLast Go.Proofs.YtningpmoojnomaaW.PrintMore
set_option linter.unusedVariables false
set_option linter.unusedSimpArgs false
theorem laid_l1 (l : List S32) (a1 : Int) (out : List Int) (x6 x8 x9 x11 x12 : Int) (hl : l.length ≤ 1000) (hlen : out.length = l.length) (i : Nat) (hi : i < l.length) (hn : ∀ k : Nat, k < i → rd out (i : Int) = rd out (k : Int) → ¬ ((rd_T32 l (i : Int)).f0 < (rd_T32 l (k : Int)).f1 ∧ (rd_T32 l (k : Int)).f0 < (rd_T32 l (i : Int)).f1)) (r : Bool)
    (K : Ev (fun k => kimberlitelaw01_SpanLaid.j6 k l a1 out x6 x8 x9 x11 x12 (i : Int) (hasS x9 (rd_T32 l (i : Int)))) r) : ∀ (d k : Nat), i - k = d → k ≤ i → Ev (fun f => kimberlitelaw01_SpanLaid.l1 f l a1 out x6 x8 x9 x11 x12 (i : Int) (k : Int)) r
  | 0, k, h, hk => by
    refine Ev.step (fun f => ?_) K
    simp only [kimberlitelaw01_SpanLaid.l1]
    rw [if_neg (by omega), if_pos (by omega), if_pos (by omega)]
    unfold hasS
    by_cases c : (rd_T32 l (i : Int)).f0 ≤ x9
    · rw [if_pos c, decide_eq_true c, Bool.true_and]
    · rw [if_neg c, decide_eq_false c, Bool.false_and]
  | d + 1, k, h, hk => by
    have hki : k < i := by omega
    have := laid_l1 l a1 out x6 x8 x9 x11 x12 hl hlen i hi hn r K d (k + 1) (by omega) (by omega)
    refine Ev.step (f := fun f => kimberlitelaw01_SpanLaid.j5 f l a1 out x6 x8 x9 x11 x12 (i : Int) (k : Int) false) (fun f => ?_) ?_
    · simp only [kimberlitelaw01_SpanLaid.l1]
      rw [if_pos (by omega), if_pos (by omega), if_pos (by omega), if_pos (by omega), if_pos (by omega)]
      by_cases ce : rd out (i : Int) = rd out (k : Int)
      · rw [if_pos ce, if_pos (by omega), if_pos (by omega)]
        have := hn k hki ce
        by_cases c : (rd_T32 l (i : Int)).f0 < (rd_T32 l (k : Int)).f1
        · rw [if_pos c, decide_eq_false (fun hc => this ⟨c, hc⟩)]
        · rw [if_neg c]
      · rw [if_neg ce]
    · refine Ev.step (fun f => ?_) this
      simp only [kimberlitelaw01_SpanLaid.j5]
      rw [if_neg (by simp), wrap_succ hki (by omega)]
theorem laid_l0 (l : List S32) (a1 : Int) (out : List Int) (x6 x8 x9 : Int) (hl : l.length ≤ 1000) (hlen : out.length = l.length) (hbox : ∀ i : Nat, i < l.length → 0 ≤ rd out (i : Int) ∧ rd out (i : Int) < x6) (hn : ∀ i k : Nat, k < i → i < l.length → rd out (i : Int) = rd out (k : Int) → ¬ ((rd_T32 l (i : Int)).f0 < (rd_T32 l (k : Int)).f1 ∧ (rd_T32 l (k : Int)).f0 < (rd_T32 l (i : Int)).f1))
    (hm : (cntS l x9 : Int) = x8) (hle : (cntS l a1 : Int) ≤ x8) (hat : (cntS l a1 : Int) = x8 → x8 ≠ 0 → x9 ≤ a1) : ∀ (d i n m : Nat), l.length - i = d → n + (l.drop i).countP (hasS x9) = cntS l x9 → m + (l.drop i).countP (hasS a1) = cntS l a1 → Ev (fun k => kimberlitelaw01_SpanLaid.l0 k l a1 out x6 x8 x9 (n : Int) (m : Int) (i : Int)) true
  | 0, i, n, m, h, hn1, hn2 => by
    rw [List.drop_eq_nil_of_le (by omega), List.countP_nil, Nat.add_zero] at hn1 hn2
    subst hn1 hn2
    have al : Ev (fun k => (kimberlitelaw01_alive.f k).bind fun t => some t) true := Ev.bind alive_ev (Ev.now _)
    have fin : Ev (fun k => (if (cntS l a1 : Int) < x8 then ((kimberlitelaw01_alive.f k).bind fun t545 => (some t545)) else (if a1 ≥ x9 then ((kimberlitelaw01_alive.f k).bind fun t546 => (some t546)) else (if x8 = 0 then ((kimberlitelaw01_alive.f k).bind fun t547 => (some t547)) else (some false))))) true := by
      by_cases c1 : (cntS l a1 : Int) < x8
      · simp only [if_pos c1]; exact al
      · simp only [if_neg c1]
        by_cases c2 : a1 ≥ x9
        · simp only [if_pos c2]; exact al
        · simp only [if_neg c2]
          by_cases c3 : x8 = 0
          · simp only [if_pos c3]; exact al
          · exact absurd (hat (by omega) c3) c2
    refine Ev.step (fun k => ?_) fin
    simp only [kimberlitelaw01_SpanLaid.l0]
    rw [if_neg (by omega), if_pos hm, if_pos hle]
  | d + 1, i, n, m, h, hn1, hn2 => by
    have hi : i < l.length := by omega
    have b1 := cntS_le l x9
    have b2 := cntS_le l a1
    rw [drop_cons l i hi, List.countP_cons] at hn1 hn2
    have bx := hbox i hi
    have er : rd_T32 l (i : Int) = l.getD i z32 := by rw [rd_nat]
    rw [← er] at hn1 hn2
    -- what comes after both counts
    have ih : ∀ n' m' : Nat, n' + (l.drop (i + 1)).countP (hasS x9) = cntS l x9 → m' + (l.drop (i + 1)).countP (hasS a1) = cntS l a1 → Ev (fun k => kimberlitelaw01_SpanLaid.l0 k l a1 out x6 x8 x9 (n' : Int) (m' : Int) ((i + 1 : Nat) : Int)) true := fun n' m' => laid_l0 l a1 out x6 x8 x9 hl hlen hbox hn hm hle hat d (i + 1) n' m' (by omega)
    have j7 : ∀ n' : Nat, n' + (l.drop (i + 1)).countP (hasS x9) = cntS l x9 → Ev (fun k => kimberlitelaw01_SpanLaid.j7 k l a1 out x6 x8 x9 (n' : Int) (m : Int) (i : Int)) true := fun n' hn' => by
      refine Ev.step (f := fun k => kimberlitelaw01_SpanLaid.j8 k l a1 out x6 x8 x9 (n' : Int) (m : Int) (i : Int) (hasS a1 (rd_T32 l (i : Int)))) (fun k => ?_) ?_
      · simp only [kimberlitelaw01_SpanLaid.j7]
        rw [if_pos (by omega), if_pos (by omega)]
        unfold hasS
        by_cases c : (rd_T32 l (i : Int)).f0 ≤ a1
        · rw [if_pos c, decide_eq_true c, Bool.true_and]
        · rw [if_neg c, decide_eq_false c, Bool.false_and]
      · cases hs : hasS a1 (rd_T32 l (i : Int)) with
        | true =>
          rw [hs, if_pos rfl] at hn2
          refine Ev.step (fun k => ?_) (ih n' (m + 1) hn' (by omega))
          simp only [kimberlitelaw01_SpanLaid.j8]
          rw [if_pos trivial, wrap_succ hi (by omega), wrap_succ (i := m) (n := 2000) (by omega) (by omega)]
        | false =>
          rw [hs] at hn2
          refine Ev.step (fun k => ?_) (ih n' m hn' (by simpa using hn2))
          simp only [kimberlitelaw01_SpanLaid.j8]
          rw [if_neg (by simp), wrap_succ hi (by omega)]
    have l1 := laid_l1 l a1 out x6 x8 x9 (n : Int) (m : Int) hl hlen i hi (fun k h => hn i k h hi) true (by
      cases hs : hasS x9 (rd_T32 l (i : Int)) with
      | true =>
        rw [hs, if_pos rfl] at hn1
        refine Ev.step (fun k => ?_) (j7 (n + 1) (by omega))
        simp only [kimberlitelaw01_SpanLaid.j6]
        rw [if_pos trivial, wrap_succ (i := n) (n := 2000) (by omega) (by omega)]
      | false =>
        rw [hs] at hn1
        refine Ev.step (fun k => ?_) (j7 n (by simpa using hn1))
        simp only [kimberlitelaw01_SpanLaid.j6]
        rw [if_neg (by simp)]) i 0 rfl (by omega)
    refine Ev.step (f := fun k => kimberlitelaw01_SpanLaid.j3 k l a1 out x6 x8 x9 (n : Int) (m : Int) (i : Int) false) (fun k => ?_) ?_
    · simp only [kimberlitelaw01_SpanLaid.l0]
      rw [if_pos (by omega), if_pos (by omega), if_pos (by omega), if_neg (by omega), decide_eq_false (by omega)]
    · refine Ev.step (fun k => ?_) l1
      simp only [kimberlitelaw01_SpanLaid.j3]
      rw [if_neg (by simp)]
      rfl
theorem SpanLaid_pure (l : List S32) (a1 : Int) : ∃ k, kimberlitelaw01_SpanLaid.f k l a1 = some true := by
  refine Ev.rounds ?_
  have al : Ev (fun k => (kimberlitelaw01_alive.f k).bind fun t => some t) true := Ev.bind alive_ev (Ev.now _)
  unfold kimberlitelaw01_SpanLaid.f
  by_cases h128 : (l.length : Int) > 128
  · simp only [if_pos h128]
    exact al
  · simp only [if_neg h128]
    have et : span_Trays.f l = some (trR l) := rfl
    simp only [et, Option.bind_some]
    refine Ev.bind (spanDepth_ev l) ?_
    by_cases hl : listR l = 0
    · obtain ⟨ends, _, ht, he⟩ := tr_all hl
      obtain ⟨d1, d2, d3, d4⟩ := depth_spec l
      have et2 : trR l = ((trF l (byL (kLo l) l.length)).1, ((trF l (byL (kLo l) l.length)).2.length : Int), 0) := by unfold trR; rw [if_pos hl]
      have ed2 : depR l = ((depF l l (0, 0)).1, (depF l l (0, 0)).2, 0) := by unfold depR; rw [if_pos hl]
      have e3 : ((trF l (byL (kLo l) l.length)).2.length : Int) = (depF l l (0, 0)).1 := by
        obtain ⟨ends', h1, h2, h3⟩ := tr_all hl
        rw [← h3, h1]
      rw [et2, ed2, e3]
      clear et2 ed2 e3
      generalize (trF l (byL (kLo l) l.length)).1 = out at ht
      have hl0 : (cntS l (depF l l (0, 0)).2 : Int) = (depF l l (0, 0)).1 := by
        by_cases h0 : (depF l l (0, 0)).1 = 0
        · have := d1 (depF l l (0, 0)).2
          omega
        · exact d3 h0
      have d2' := d2 a1
      have d1' := d1 a1
      generalize (depF l l (0, 0)).1 = q at *
      generalize (depF l l (0, 0)).2 = at_ at *
      have sp : ∀ i : Nat, rd_T32 l (i : Int) = spL l (i : Int) := fun i => rfl
      have mem : ∀ i : Nat, i < l.length → (i : Int) ∈ byL (kLo l) l.length := fun i hi => (byL_mem _ _ _).2 ⟨by omega, by omega⟩
      have main := laid_l0 l a1 out q q at_ (by omega) ht.len (fun i hi => by
        have := ht.box _ (mem i hi)
        exact ⟨this.1, by omega⟩) (fun i k hk hi he => by
        rw [sp, sp]
        exact ht.dis _ (mem i hi) _ (mem k (by omega)) (by omega) he) hl0 d1' d2' _ 0 0 0 rfl (by simp [cntS]) (by simp [cntS])
      have hlen := ht.len
      suffices hh : Ev (fun k => kimberlitelaw01_SpanLaid.j0 k l a1 out q 0 q at_ 0 false) true by simpa using hh
      refine Ev.step (f := fun k => kimberlitelaw01_SpanLaid.j1 k l a1 out q q at_ false) (fun k => by simp only [kimberlitelaw01_SpanLaid.j0]; rw [if_neg (by simp), if_pos (by omega)]; simp) ?_
      refine Ev.step (fun k => ?_) main
      simp only [kimberlitelaw01_SpanLaid.j1]
      rw [if_neg (by simp)]
      rfl
    · have et2 : trR l = ([], 0, listR l) := by unfold trR; rw [if_neg hl]
      have ed2 : depR l = (0, 0, listR l) := by unfold depR; rw [if_neg hl]
      rw [et2, ed2]
      suffices hh : Ev (fun k => kimberlitelaw01_SpanLaid.j0 k l a1 [] 0 (listR l) 0 0 (listR l) true) true by simpa [hl] using hh
      refine Ev.step (f := fun k => (kimberlitelaw01_alive.f k).bind fun t => some t) (fun k => by simp only [kimberlitelaw01_SpanLaid.j0]; rw [if_pos trivial, if_pos trivial]; simp) ?_
      exact al
theorem SpanLaid_walk {W : World} (a0 : Option Addr) (cap0 : Nat) (l0 : List S32) (c0 : l0.length ≤ cap0) (hr0 : Kd.C k32 W a0 l0.length l0) (w0 : ∀ s ∈ l0, okS s) (a1 : Int) (b1 : (Lit.int .i64 a1).wf = true) :
    Calls Try.prog 9 #[.slice a0 l0.length cap0, .int .i64 a1] W fun e w' => e = .returned (.bool true) ∧ Below W.heap.size W w' := by
  obtain ⟨k, h⟩ := SpanLaid_pure l0 a1
  exact kimberlitelaw01_SpanLaid.calls k _ _ l0 a1 true W hr0 c0 h
end Go.Proofs.Ytningpmoojnomaa.Pr
end
section
namespace Go.Proofs.Ytningpmoojnomaa.spanLaid
open Go.ChangeShapes Go.WideShapes Go.ChangeAt Go.RowKit Go.Proofs.Ytningpmoojnomaa.Pr
set_option linter.unusedVariables false
theorem own : ownKnob Try.prog.godebug = none := by kernel_rfl
theorem laidOut : laidOutB Try.prog = true := by kernel_rfl
set_option maxRecDepth 100000 in
theorem lifted (os : Os) (started : os.Started) (H : Type) (enc : TypeId × Value → H) :
    ReturnsInHanded {} Try.checked os 9 .any (Rows.spanLaidSpec.pre6 enc Try.prog Try.f9 Rows.spanLaidRow.domain false) (Rows.spanLaidSpec.post enc Try.prog Try.f9 false true false false) := by
  refine returnsInHanded_of_change (C := Try.checked) own started (by kernel_rfl) Try.func9
    (ChangeSpec.witness6 (enc := enc) (C := Try.checked) false ⟨#[], #[.slice none 0 0, .int .i64 0], []⟩ 8 (by kernel_rfl) (by kernel_rfl) (by kernel_rfl) (by kernel_rfl)) ?_
  intro W base args ds gs before hval0 hW hcnd _
  have hval : ∀ (j : Nat) t v, Try.f9.params[j]? = some t → args[j]? = some v → Value.okWide Try.prog W .any base t v := hval0
  have hW' := hW
  obtain ⟨p, q, hA0, hV, rfl, hfz, hnd⟩ := hW
  have hA : DataW.TrodAll enc Try.prog W 0 (fun _ => true) true Try.f9.params.toList args.toList ds p := hA0
  rw [Try.params9] at hA hval
  obtain ⟨v0, vs0, d0, ds0, p0, q0, hargs, rfl, rfl, h0, r0⟩ := trodAll_cons hA
  obtain ⟨v1, vs1, d1, ds1, p1, q1, rfl, rfl, rfl, h1, r1⟩ := trodAll_cons r0
  obtain ⟨rfl, rfl, rfl⟩ := trodAll_nil r1
  obtain rfl : args = #[v0, v1] := by cases args; simp_all
  obtain ⟨rfl, rfl⟩ := trodVars_none hV
  have k0 := h0
  have lt0 : ∀ x ∈ p0, x.block < W.heap.size := by obtain ⟨m, hm⟩ := k0; exact DataW.trod_lt m _ _ _ hm
  obtain ⟨a0, len0, cap0, rfl⟩ := okWide_slice Try.underlying22 (hval 0 22 v0 rfl rfl)
  obtain ⟨l0, rfl, c0, hr0, w0⟩ := open_spans h0
  obtain ⟨a1, rfl, rfl, rfl, w1⟩ := open_int Try.underlying3 (hval 1 3 v1 rfl rfl) h1
  clear hA0 hval0
  try simp only [List.append_nil] at hW'
  refine (SpanLaid_walk a0 cap0 l0 c0 hr0 w0 a1 w1).mono fun e W' ⟨he, bel⟩ => ?_
  subst he
  exact ⟨_, rfl, _, _, _, [], _, [], hW', trodAll_mk1 (shut_bool Try.underlying4 _), (trodAll_cons_mk (Below.trod laidOut (by kernel_rfl) (of_decide_eq_true (by kernel_rfl)) k0 bel lt0) (trodAll_cons_mk (shut_int Try.underlying3 w1) trodAll_mk0)), rfl, bel.frame _, fun h => by cases h⟩
theorem over : Rows.spanLaidRow.holds Try.pinned (OpenSpec.ofChange Rows.spanLaidSpec) :=
  OpenClaim.holds_of_wide 9 Try.f9 rfl rfl rfl rfl rfl rfl rfl ⟨rfl, rfl, rfl, rfl, rfl⟩ rfl rfl rfl rfl rfl (by kernel_rfl) Try.func9 (by kernel_rfl)
    (of_decide_eq_true (by kernel_rfl)) (by unfold Func.isWrapper; first | (rw [if_pos (by decide +kernel)]; kernel_rfl) | (rw [if_neg (by decide +kernel)]; exact ⟨rfl, rfl⟩))
    (fun os started H enc _ => lifted os started H enc)
theorem proved : Rows.SpanLaidSaid := over
end Go.Proofs.Ytningpmoojnomaa.spanLaid
namespace Go.Proofs.Ytningpmoojnomaa
/-- The row, under a short name, for the claim. -/
theorem spanLaid_holds : Rows.SpanLaidSaid := spanLaid.proved
end Go.Proofs.Ytningpmoojnomaa
end
