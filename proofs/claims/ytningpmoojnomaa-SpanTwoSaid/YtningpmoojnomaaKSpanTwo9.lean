/- What the proof of the law needs, trimmed and merged by wip/pack.py out of the texts YtningpmoojnomaaWalkSpanTwo, YtningpmoojnomaaRowSpanTwo. No condition. -/
import Derived.Test.YtningpmoojnomaaRows
import Derived.WalkKit
import Derived.ProofKit
import Derived.OpenShut
import Derived.ShutString
import Derived.ChangeOld
import Derived.Below
import Derived.SizedLaws
import Derived.Test.YtningpmoojnomaaKSpanTwo0
import Derived.Test.YtningpmoojnomaaKSpanTwo1
import Derived.Test.YtningpmoojnomaaKSpanTwo2
import Derived.Test.YtningpmoojnomaaKSpanTwo3
import Derived.Test.YtningpmoojnomaaKSpanTwo4
import Derived.Test.YtningpmoojnomaaKSpanTwo5
import Derived.Test.YtningpmoojnomaaKSpanTwo6
import Derived.Test.YtningpmoojnomaaKSpanTwo7
import Derived.Test.YtningpmoojnomaaKSpanTwo8
section
namespace Go.Proofs.Ytningpmoojnomaa.Pr
open Go.RowKit Go.Proofs.YtningpmoojnomaaW.PrintWords Go.Proofs.YtningpmoojnomaaW.PrintLast Go.Proofs.YtningpmoojnomaaW.PrintMore
set_option linter.unusedVariables false
set_option linter.unusedSimpArgs false
set_option maxHeartbeats 32000000 in
set_option maxRecDepth 100000 in
theorem SpanTwo_walk {W : World} (a0 : Option Addr) (cap0 : Nat) (l0 : List S32) (c0 : l0.length ≤ cap0) (hr0 : Kd.C k32 W a0 l0.length l0) (w0 : ∀ s ∈ l0, okS s) (a1 : Option Addr) (cap1 : Nat) (l1 : List S32) (c1 : l1.length ≤ cap1) (hr1 : Kd.C k32 W a1 l1.length l1) (w1 : ∀ s ∈ l1, okS s) :
    Calls Try.prog 11 #[.slice a0 l0.length cap0, .slice a1 l1.length cap1] W fun e w' => e = .returned (.bool true) ∧ Below W.heap.size W w' := by
  have hm0 : l0.length ≤ 9223372036854775807 := hr0.2.1
  have hm1 : l1.length ≤ 9223372036854775807 := hr1.2.1
  have HR0 := Aside0.mk hr0
  have HR1 := Aside0.mk hr1
  have HC0 := Aside0.mk c0
  have HC1 := Aside0.mk c1
  clear hr0 c0 w0 hr1 c1 w1
  by_cases h140 : l0.length ≤ 140
  · have HF := Aside0.mk (show decide ((l0.length : Int) ≤ 140) = true from decide_eq_true (by omega))
    by_cases h141 : l1.length ≤ 140
    · have HF1 := Aside0.mk (show decide ((l1.length : Int) ≤ 140) = true from decide_eq_true (by omega))
      have HL := Aside0.mk h140
      have HL1 := Aside0.mk h141
      obtain ⟨kx, hx⟩ := (refTwo_ev 0 l0 l1 hm0 hm1).rounds
      obtain ⟨ky, hy⟩ := (refTwo_ev 1 l0 l1 hm0 hm1).rounds
      obtain ⟨kz, hz⟩ := (refTwo_ev 2 l0 l1 hm0 hm1).rounds
      obtain ⟨kn, hn⟩ := (refNot_ev l0 hm0).rounds
      obtain ⟨x1, x2, ex⟩ : ∃ x1 x2, twoR 0 l0 l1 = (x1, x2) := ⟨_, _, rfl⟩
      obtain ⟨y1, y2, ey⟩ : ∃ x1 x2, twoR 1 l0 l1 = (x1, x2) := ⟨_, _, rfl⟩
      obtain ⟨z1, z2, ez⟩ : ∃ x1 x2, twoR 2 l0 l1 = (x1, x2) := ⟨_, _, rfl⟩
      obtain ⟨n1, n2, en⟩ : ∃ x1 x2, notR l0 = (x1, x2) := ⟨_, _, rfl⟩
      rw [ex] at hx
      rw [ey] at hy
      rw [ez] at hz
      rw [en] at hn
      have HRx := Aside0.mk hx
      have HRy := Aside0.mk hy
      have HRz := Aside0.mk hz
      have HRn := Aside0.mk hn
      have HPx := Aside0.mk (show span_Union.f l0 l1 = some (x1, x2) by unfold span_Union.f; rw [ex])
      have HPy := Aside0.mk (show span_Intersect.f l0 l1 = some (y1, y2) by unfold span_Intersect.f; rw [ey])
      have HPz := Aside0.mk (show span_Subtract.f l0 l1 = some (z1, z2) by unfold span_Subtract.f; rw [ez])
      have HPn := Aside0.mk (show span_Not.f l0 = some (n1, n2) by unfold span_Not.f; rw [en])
      clear hm0 hm1 h140 h141 hx hy hz hn ex ey ez en
      go_enter Try.func11, Try.ntmps11
      go_wp2_with (go_at_call 15; with_reducible refine (few_at _ _ l0 _ HR0.out HC0.out true HF.out).mono ?_; rintro e w1 ⟨rfl, hb1⟩)
      have HB := Aside0.mk hb1.below
      clear hb1
      go_wp2_with (go_at_call 15; with_reducible refine (few_at _ _ l1 _ (Kd.C_below HR1.out HB.out) HC1.out true HF1.out).mono ?_; rintro e w2 ⟨rfl, hb2⟩)
      have HB2 := Aside0.mk (below_then HB.out HB.out.size hb2.below)
      clear hb2 HB
      go_wp2_with (go_at_call 17; with_reducible refine (own_full _ _ l0 _ (Kd.C_below HR0.out HB2.out) HL.out).mono ?_; rintro e w3 ⟨ba, ca, rfl, hf3, hb3⟩)
      have HB3 := Aside0.mk (below_then HB2.out HB2.out.size hb3)
      have HF3 := Aside0.mk hf3
      clear hb3 hf3 HB2
      go_wp2_with (go_at_call 17; with_reducible refine (own_full _ _ l1 _ (Kd.C_below HR1.out HB3.out) HL1.out).mono ?_; rintro e w4 ⟨bb, cb, rfl, hf4, hb4⟩)
      have HB4 := Aside0.mk (below_then HB3.out HB3.out.size hb4)
      have HFa := Aside0.mk (HF3.out.below hb4)
      have HFb := Aside0.mk hf4
      have HRa := Aside0.mk (Kd.C_below HR0.out HB4.out)
      have HRb := Aside0.mk (Kd.C_below HR1.out HB4.out)
      clear hb4 hf4 HB3 HF3 HR0 HR1
      go_loopg [7] 2 (fun gg v7 wr => ∃ kk : Nat, kk ≤ 2 ∧ 2 - kk ≤ gg ∧ v7 = .int .i64 kk ∧ Aside0 (Below w4.heap.size w4 wr))
      case atStart => exact ⟨0, Nat.zero_le _, by omega, rfl, ⟨Below.refl _ _⟩⟩
      case round =>
       obtain ⟨kk, hkk, hg, rfl, HBc⟩ := hrel
       by_cases hlt : kk < 2
       · have hltz : (kk : Int) < 2 := by omega
         go_wp2_with (go_at_call 50; with_reducible refine (span_Union.calls _ _ l0 _ _ l1 x1 x2 _ (HFa.out.below HBc.out).reads (Nat.le_of_succ_le (HFa.out.below HBc.out).cap) (HFb.out.below HBc.out).reads (Nat.le_of_succ_le (HFb.out.below HBc.out).cap) HPx.out).mono ?_; rintro e wx1 ⟨vx, rfl, hr1, hb1⟩; obtain ⟨Ax, cx, e1⟩ := Kd.R_slice hr1; subst e1)
         have HB1 := Aside0.mk (below_then HBc.out HBc.out.size hb1)
         have HR1 := Aside0.mk (Kd.R_lower hr1 HBc.out.size)
         clear hb1 hr1 HBc
         go_wp2_with (go_at_call 51; with_reducible refine (kimberliteref01_Two.calls kx 0 _ _ l0 _ _ l1 x1 x2 _ (Kd.C_below HRa.out HB1.out) HC0.out (Kd.C_below HRb.out HB1.out) HC1.out HRx.out).mono ?_; rintro e wx2 ⟨vx2, rfl, hr2, hb2⟩; obtain ⟨Ax2, cx2, e1⟩ := Kd.R_slice hr2; subst e1)
         have HB2 := Aside0.mk (below_then HB1.out HB1.out.size hb2)
         have HR12 := Aside0.mk (Kd.R_below HR1.out hb2)
         have HR2 := Aside0.mk (Kd.R_reads' hr2).2
         clear hb2 hr2 HB1 HR1
         go_wp2_with (go_at_call 20; with_reducible refine (same_at _ _ _ _ x1 _ (Kd.R_reads' HR12.out).2.2 (Kd.R_reads' HR12.out).2.1 HR2.out.2 HR2.out.1).mono ?_; rintro e wx3 ⟨rfl, hb3⟩)
         have HB3 := Aside0.mk (below_then HB2.out HB2.out.size hb3.below)
         have HR3 := Aside0.mk (Kd.R_below HR12.out hb3.below)
         clear hb3 HB2 HR12 HR2
         go_wp2_with (go_at_call 22; with_reducible refine (spoil_any _ x1 w4 _ HB3.out HR3.out).mono ?_; rintro e wx4 ⟨rfl, hb4⟩)
         have HBc := Aside0.mk hb4
         clear hb4 HB3 HR3
         go_wp2_with (go_at_call 52; with_reducible refine (span_Intersect.calls _ _ l0 _ _ l1 y1 y2 _ (HFa.out.below HBc.out).reads (Nat.le_of_succ_le (HFa.out.below HBc.out).cap) (HFb.out.below HBc.out).reads (Nat.le_of_succ_le (HFb.out.below HBc.out).cap) HPy.out).mono ?_; rintro e wy1 ⟨vy, rfl, hr1, hb1⟩; obtain ⟨Ay, cy, e1⟩ := Kd.R_slice hr1; subst e1)
         have HB1 := Aside0.mk (below_then HBc.out HBc.out.size hb1)
         have HR1 := Aside0.mk (Kd.R_lower hr1 HBc.out.size)
         clear hb1 hr1 HBc
         go_wp2_with (go_at_call 51; with_reducible refine (kimberliteref01_Two.calls ky 1 _ _ l0 _ _ l1 y1 y2 _ (Kd.C_below HRa.out HB1.out) HC0.out (Kd.C_below HRb.out HB1.out) HC1.out HRy.out).mono ?_; rintro e wy2 ⟨vy2, rfl, hr2, hb2⟩; obtain ⟨Ay2, cy2, e1⟩ := Kd.R_slice hr2; subst e1)
         have HB2 := Aside0.mk (below_then HB1.out HB1.out.size hb2)
         have HR12 := Aside0.mk (Kd.R_below HR1.out hb2)
         have HR2 := Aside0.mk (Kd.R_reads' hr2).2
         clear hb2 hr2 HB1 HR1
         go_wp2_with (go_at_call 20; with_reducible refine (same_at _ _ _ _ y1 _ (Kd.R_reads' HR12.out).2.2 (Kd.R_reads' HR12.out).2.1 HR2.out.2 HR2.out.1).mono ?_; rintro e wy3 ⟨rfl, hb3⟩)
         have HB3 := Aside0.mk (below_then HB2.out HB2.out.size hb3.below)
         have HR3 := Aside0.mk (Kd.R_below HR12.out hb3.below)
         clear hb3 HB2 HR12 HR2
         go_wp2_with (go_at_call 22; with_reducible refine (spoil_any _ y1 w4 _ HB3.out HR3.out).mono ?_; rintro e wy4 ⟨rfl, hb4⟩)
         have HBc := Aside0.mk hb4
         clear hb4 HB3 HR3
         go_wp2_with (go_at_call 53; with_reducible refine (span_Subtract.calls _ _ l0 _ _ l1 z1 z2 _ (HFa.out.below HBc.out).reads (Nat.le_of_succ_le (HFa.out.below HBc.out).cap) (HFb.out.below HBc.out).reads (Nat.le_of_succ_le (HFb.out.below HBc.out).cap) HPz.out).mono ?_; rintro e wz1 ⟨vz, rfl, hr1, hb1⟩; obtain ⟨Az, cz, e1⟩ := Kd.R_slice hr1; subst e1)
         have HB1 := Aside0.mk (below_then HBc.out HBc.out.size hb1)
         have HR1 := Aside0.mk (Kd.R_lower hr1 HBc.out.size)
         clear hb1 hr1 HBc
         go_wp2_with (go_at_call 51; with_reducible refine (kimberliteref01_Two.calls kz 2 _ _ l0 _ _ l1 z1 z2 _ (Kd.C_below HRa.out HB1.out) HC0.out (Kd.C_below HRb.out HB1.out) HC1.out HRz.out).mono ?_; rintro e wz2 ⟨vz2, rfl, hr2, hb2⟩; obtain ⟨Az2, cz2, e1⟩ := Kd.R_slice hr2; subst e1)
         have HB2 := Aside0.mk (below_then HB1.out HB1.out.size hb2)
         have HR12 := Aside0.mk (Kd.R_below HR1.out hb2)
         have HR2 := Aside0.mk (Kd.R_reads' hr2).2
         clear hb2 hr2 HB1 HR1
         go_wp2_with (go_at_call 20; with_reducible refine (same_at _ _ _ _ z1 _ (Kd.R_reads' HR12.out).2.2 (Kd.R_reads' HR12.out).2.1 HR2.out.2 HR2.out.1).mono ?_; rintro e wz3 ⟨rfl, hb3⟩)
         have HB3 := Aside0.mk (below_then HB2.out HB2.out.size hb3.below)
         have HR3 := Aside0.mk (Kd.R_below HR12.out hb3.below)
         clear hb3 HB2 HR12 HR2
         go_wp2_with (go_at_call 22; with_reducible refine (spoil_any _ z1 w4 _ HB3.out HR3.out).mono ?_; rintro e wz4 ⟨rfl, hb4⟩)
         have HBc := Aside0.mk hb4
         clear hb4 HB3 HR3
         go_wp2_with (go_at_call 54; with_reducible refine (span_Not.calls _ _ l0 n1 n2 _ (HFa.out.below HBc.out).reads (Nat.le_of_succ_le (HFa.out.below HBc.out).cap) HPn.out).mono ?_; rintro e wn1 ⟨vn, rfl, hr1, hb1⟩; obtain ⟨An, cn, e1⟩ := Kd.R_slice hr1; subst e1)
         have HB1 := Aside0.mk (below_then HBc.out HBc.out.size hb1)
         have HR1 := Aside0.mk (Kd.R_lower hr1 HBc.out.size)
         clear hb1 hr1 HBc
         go_wp2_with (go_at_call 55; with_reducible refine (kimberliteref01_Not.calls kn _ _ l0 n1 n2 _ (Kd.C_below HRa.out HB1.out) HC0.out HRn.out).mono ?_; rintro e wn2 ⟨vn2, rfl, hr2, hb2⟩; obtain ⟨An2, cn2, e1⟩ := Kd.R_slice hr2; subst e1)
         have HB2 := Aside0.mk (below_then HB1.out HB1.out.size hb2)
         have HR12 := Aside0.mk (Kd.R_below HR1.out hb2)
         have HR2 := Aside0.mk (Kd.R_reads' hr2).2
         clear hb2 hr2 HB1 HR1
         go_wp2_with (go_at_call 20; with_reducible refine (same_at _ _ _ _ n1 _ (Kd.R_reads' HR12.out).2.2 (Kd.R_reads' HR12.out).2.1 HR2.out.2 HR2.out.1).mono ?_; rintro e wn3 ⟨rfl, hb3⟩)
         have HB3 := Aside0.mk (below_then HB2.out HB2.out.size hb3.below)
         have HR3 := Aside0.mk (Kd.R_below HR12.out hb3.below)
         clear hb3 HB2 HR12 HR2
         go_wp2_with (go_at_call 22; with_reducible refine (spoil_any _ n1 w4 _ HB3.out HR3.out).mono ?_; rintro e wn4 ⟨rfl, hb4⟩)
         go_roundg (2 - (kk + 1))
         case measure => omega
         case rel => exact ⟨kk + 1, by omega, by omega, by go_num, ⟨hb4⟩⟩
       · have hltz : ¬ (kk : Int) < 2 := by omega
         have HBs := Aside0.mk (below_then HB4.out HB4.out.size HBc.out)
         go_wp2_with (go_at_call 21; with_reducible refine (kept_full _ _ _ _ _ l0 _ (HFa.out.below HBc.out) (Kd.C_below HRa.out HBc.out) HC0.out HL.out).mono ?_; rintro e w5 ⟨rfl, hb5⟩)
         have HB5 := Aside0.mk (below_then HBc.out HBc.out.size hb5)
         clear hb5
         go_wp2_with (go_at_call 21; with_reducible refine (kept_full _ _ _ _ _ l1 _ (HFb.out.below HB5.out) (Kd.C_below HRb.out HB5.out) HC1.out HL1.out).mono ?_; rintro e w6 ⟨rfl, hb6⟩)
         have HB6 := Aside0.mk (below_then HB5.out HB5.out.size hb6)
         clear hb6
         go_wp2_with (go_at_call 16; with_reducible refine (alive_at _).mono ?_; rintro e w7 ⟨rfl, hb7⟩)
         go_ret
         exact ⟨rfl, below_then HB4.out HB4.out.size (below_then HB6.out HB6.out.size hb7)⟩
    · have HF1 := Aside0.mk (show decide ((l1.length : Int) ≤ 140) = false from decide_eq_false (by omega))
      clear h140 h141
      go_enter Try.func11, Try.ntmps11
      go_wp2_with (go_at_call 15; with_reducible refine (few_at _ _ l0 _ HR0.out HC0.out true HF.out).mono ?_; rintro e w1 ⟨rfl, hb1⟩)
      have HB := Aside0.mk hb1.below
      clear hb1
      go_wp2_with (go_at_call 15; with_reducible refine (few_at _ _ l1 _ (Kd.C_below HR1.out HB.out) HC1.out false HF1.out).mono ?_; rintro e w2 ⟨rfl, hb2⟩)
      have HB2 := Aside0.mk (below_then HB.out HB.out.size hb2.below)
      clear hb2
      go_wp2_with (go_at_call 16; with_reducible refine (alive_at _).mono ?_; rintro e w3 ⟨rfl, hb3⟩)
      go_ret
      exact ⟨rfl, below_then HB2.out HB2.out.size hb3⟩
  · have HF := Aside0.mk (show decide ((l0.length : Int) ≤ 140) = false from decide_eq_false (by omega))
    clear h140
    go_enter Try.func11, Try.ntmps11
    go_wp2_with (go_at_call 15; with_reducible refine (few_at _ _ l0 _ HR0.out HC0.out false HF.out).mono ?_; rintro e w1 ⟨rfl, hb1⟩)
    go_wp2_with (go_at_call 16; with_reducible refine (alive_at _).mono ?_; rintro e w2 ⟨rfl, hb2⟩)
    go_ret
    exact ⟨rfl, below_then hb1.below hb1.below.size hb2⟩
end Go.Proofs.Ytningpmoojnomaa.Pr
end
section
namespace Go.Proofs.Ytningpmoojnomaa.spanTwo
open Go.ChangeShapes Go.WideShapes Go.ChangeAt Go.RowKit Go.Proofs.Ytningpmoojnomaa.Pr
set_option linter.unusedVariables false
theorem own : ownKnob Try.prog.godebug = none := by kernel_rfl
theorem laidOut : laidOutB Try.prog = true := by kernel_rfl
set_option maxRecDepth 100000 in
theorem lifted (os : Os) (started : os.Started) (H : Type) (enc : TypeId × Value → H) :
    ReturnsInHanded {} Try.checked os 11 .any (Rows.spanTwoSpec.pre6 enc Try.prog Try.f11 Rows.spanTwoRow.domain false) (Rows.spanTwoSpec.post enc Try.prog Try.f11 false true false false) := by
  refine returnsInHanded_of_change (C := Try.checked) own started (by kernel_rfl) Try.func11
    (ChangeSpec.witness6 (enc := enc) (C := Try.checked) false ⟨#[], #[.slice none 0 0, .slice none 0 0], []⟩ 8 (by kernel_rfl) (by kernel_rfl) (by kernel_rfl) (by kernel_rfl)) ?_
  intro W base args ds gs before hval0 hW hcnd _
  have hval : ∀ (j : Nat) t v, Try.f11.params[j]? = some t → args[j]? = some v → Value.okWide Try.prog W .any base t v := hval0
  have hW' := hW
  obtain ⟨p, q, hA0, hV, rfl, hfz, hnd⟩ := hW
  have hA : DataW.TrodAll enc Try.prog W 0 (fun _ => true) true Try.f11.params.toList args.toList ds p := hA0
  rw [Try.params11] at hA hval
  obtain ⟨v0, vs0, d0, ds0, p0, q0, hargs, rfl, rfl, h0, r0⟩ := trodAll_cons hA
  obtain ⟨v1, vs1, d1, ds1, p1, q1, rfl, rfl, rfl, h1, r1⟩ := trodAll_cons r0
  obtain ⟨rfl, rfl, rfl⟩ := trodAll_nil r1
  obtain rfl : args = #[v0, v1] := by cases args; simp_all
  obtain ⟨rfl, rfl⟩ := trodVars_none hV
  have k0 := h0
  have lt0 : ∀ x ∈ p0, x.block < W.heap.size := by obtain ⟨m, hm⟩ := k0; exact DataW.trod_lt m _ _ _ hm
  obtain ⟨a0, len0, cap0, rfl⟩ := okWide_slice Try.underlying22 (hval 0 22 v0 rfl rfl)
  obtain ⟨l0, rfl, c0, hr0, w0⟩ := open_spans h0
  have k1 := h1
  have lt1 : ∀ x ∈ p1, x.block < W.heap.size := by obtain ⟨m, hm⟩ := k1; exact DataW.trod_lt m _ _ _ hm
  obtain ⟨a1, len1, cap1, rfl⟩ := okWide_slice Try.underlying22 (hval 1 22 v1 rfl rfl)
  obtain ⟨l1, rfl, c1, hr1, w1⟩ := open_spans h1
  clear hA0 hval0
  try simp only [List.append_nil] at hW'
  refine (SpanTwo_walk a0 cap0 l0 c0 hr0 w0 a1 cap1 l1 c1 hr1 w1).mono fun e W' ⟨he, bel⟩ => ?_
  subst he
  exact ⟨_, rfl, _, _, _, [], _, [], hW', trodAll_mk1 (shut_bool Try.underlying4 _), (trodAll_cons_mk (Below.trod laidOut (by kernel_rfl) (of_decide_eq_true (by kernel_rfl)) k0 bel lt0) (trodAll_cons_mk (Below.trod laidOut (by kernel_rfl) (of_decide_eq_true (by kernel_rfl)) k1 bel lt1) trodAll_mk0)), rfl, bel.frame _, fun h => by cases h⟩
theorem over : Rows.spanTwoRow.holds Try.pinned (OpenSpec.ofChange Rows.spanTwoSpec) :=
  OpenClaim.holds_of_wide 11 Try.f11 rfl rfl rfl rfl rfl rfl rfl ⟨rfl, rfl, rfl, rfl, rfl⟩ rfl rfl rfl rfl rfl (by kernel_rfl) Try.func11 (by kernel_rfl)
    (of_decide_eq_true (by kernel_rfl)) (by unfold Func.isWrapper; first | (rw [if_pos (by decide +kernel)]; kernel_rfl) | (rw [if_neg (by decide +kernel)]; exact ⟨rfl, rfl⟩))
    (fun os started H enc _ => lifted os started H enc)
theorem proved : Rows.SpanTwoSaid := over
end Go.Proofs.Ytningpmoojnomaa.spanTwo
namespace Go.Proofs.Ytningpmoojnomaa
/-- The row, under a short name, for the claim. -/
theorem spanTwo_holds : Rows.SpanTwoSaid := spanTwo.proved
end Go.Proofs.Ytningpmoojnomaa
end
