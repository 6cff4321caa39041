/- What the proof of the law needs, trimmed and merged by wip/pack.py out of the texts YtningpmoojnomaaArgs, YtningpmoojnomaaWalkSpanPoints, YtningpmoojnomaaRowSpanPoints. No condition. -/
import Derived.Deep.Slices
import Derived.Deep.Fields
import Derived.ChangeSame
import Derived.Lib.SmallJoins
import Derived.OpenShut
import Derived.Test.YtningpmoojnomaaRows
import Derived.WalkKit
import Derived.ProofKit
import Derived.ShutString
import Derived.ChangeOld
import Derived.Below
import Derived.SizedLaws
import Derived.Test.YtningpmoojnomaaKSpanPoints0
import Derived.Test.YtningpmoojnomaaKSpanPoints1
import Derived.Test.YtningpmoojnomaaKSpanPoints2
import Derived.Test.YtningpmoojnomaaKSpanPoints3
import Derived.Test.YtningpmoojnomaaKSpanPoints4
import Derived.Test.YtningpmoojnomaaKSpanPoints5
import Derived.Test.YtningpmoojnomaaKSpanPoints6
import Derived.Test.YtningpmoojnomaaKSpanPoints7
import Derived.Test.YtningpmoojnomaaKSpanPoints8
import Derived.Test.YtningpmoojnomaaKSpanPoints9
import Derived.Test.YtningpmoojnomaaKSpanPoints10
section
namespace Go.Proofs.Ytningpmoojnomaa.Pr
open Go.RowKit Go.ChangeShapes Go.WideShapes Go.Deep Go.Joins Go.Proofs.YtningpmoojnomaaW.PrintWords Go.Proofs.YtningpmoojnomaaW.PrintLast Go.Proofs.YtningpmoojnomaaW.PrintMore
set_option linter.unusedVariables false
set_option linter.unusedSimpArgs false
section
variable {H : Type} {enc : TypeId × Value → H} {W : World}
/-- Both numbers of a span are int64s. -/
def okS (x : S32) : Prop := (Lit.int .i64 x.f0).wf = true ∧ (Lit.int .i64 x.f1).wf = true
set_option maxRecDepth 100000 in
theorem open_spans {a : Option Addr} {len cap : Nat} {d : DataW H} {p : List MemPlace} (h : DataW.Trod enc Try.prog W 0 (fun _ => true) true 22 (.slice a len cap) d p) :
    ∃ l : List S32, l.length = len ∧ l.length ≤ cap ∧ Kd.C k32 W a l.length l ∧ ∀ x ∈ l, okS x := by
  obtain ⟨fuel, hf⟩ := h
  rcases open_slice Try.underlying22 hf with ⟨hcs, _⟩ | ⟨ad, len', cap', m, n, D, Pl, hcs, _, hl, hm, hmm, _, hi⟩
  · simp [Value.cells] at hcs
    obtain ⟨rfl, rfl, rfl⟩ := hcs
    exact ⟨[], rfl, by simp, ⟨rfl, by simp, fun h => absurd h (by simp)⟩, fun x hx => absurd hx (by simp)⟩
  · simp [Value.cells] at hcs
    obtain ⟨rfl, rfl, rfl⟩ := hcs
    have hC : Try.prog.cellsOf 32 = 2 := by kernel_rfl
    have key : ∀ i, i < len → ∃ x : S32, okS x ∧ W.cell? (ad.add (i * 2)) = some (.int .i64 x.f0) ∧ W.cell? (ad.add (i * 2 + 1)) = some (.int .i64 x.f1) := by
      intro i hil
      obtain ⟨cs', hc, ht'⟩ := hi i (by rw [hmm]; simp; omega)
      rw [hC] at hc
      obtain ⟨ys, n', hn', hy, hlen, hyl, hfd⟩ := DataW.trod_struct Try.underlying32 ht'
      obtain ⟨_, hcl, hat⟩ := World.cells?_some hc
      match cs', hcl with
      | [c0, c1], _ =>
        have k3 : Try.prog.cellsOf 3 = 1 := by kernel_rfl
        obtain ⟨y0, hy0⟩ : ∃ y, ys[0]? = some y := ⟨_, List.getElem?_eq_getElem (by rw [hyl]; decide)⟩
        obtain ⟨y1, hy1⟩ : ∃ y, ys[1]? = some y := ⟨_, List.getElem?_eq_getElem (by rw [hyl]; decide)⟩
        have g0 := hfd 0 _ rfl
        have g1 := hfd 1 _ rfl
        dsimp only [List.getElem_toArray, List.getElem_cons_zero, List.getElem_cons_succ] at g0 g1
        rw [k3, hy0] at g0
        rw [k3, hy1] at g1
        simp only [List.drop_zero, List.drop_succ_cons, List.take_succ_cons, List.take_zero] at g0 g1
        obtain ⟨a0, e0, _, w0⟩ := DataW.trod_int Try.underlying3 g0
        obtain ⟨a1, e1, _, w1⟩ := DataW.trod_int Try.underlying3 g1
        simp at e0 e1
        subst e0 e1
        have h0 := hat 0 (by omega)
        have h1 := hat 1 (by omega)
        rw [Deep.add_add] at h0 h1
        exact ⟨⟨a0, a1⟩, ⟨w0, w1⟩, by simpa using h0, by simpa using h1⟩
    obtain ⟨f, hf⟩ := @choose_lt S32 ⟨z32⟩ _ _ key
    refine ⟨(List.range len).map f, by simp, by simpa using hl, ⟨by simp, by simp; simp only [maxLen] at hm; omega, fun _ => ⟨ad, rfl, fun j x hj => ?_⟩⟩, ?_⟩
    · obtain ⟨hjl, hx⟩ := List.getElem?_eq_some_iff.1 hj
      have hjl' : j < len := by simpa using hjl
      simp at hx
      subst hx
      obtain ⟨_, h0, h1⟩ := hf j hjl'
      refine ⟨_, rfl, k32_mk W (f j), fun i u hu => ?_⟩
      match i, hu with
      | 0, hu => simp at hu; subst hu; exact h0
      | 1, hu => simp at hu; subst hu; exact h1
      | i + 2, hu => simp at hu
    · intro x hx
      obtain ⟨j, hj, rfl⟩ := List.mem_map.1 hx
      exact (hf j (by simpa using hj)).1
end
end Go.Proofs.Ytningpmoojnomaa.Pr
end
section
namespace Go.Proofs.Ytningpmoojnomaa.Pr
open Go.RowKit Go.Proofs.YtningpmoojnomaaW.PrintWords Go.Proofs.YtningpmoojnomaaW.PrintLast Go.Proofs.YtningpmoojnomaaW.PrintMore
set_option linter.unusedVariables false
set_option linter.unusedSimpArgs false
theorem alike_l0 (l : List Int) (hl : l.length ≤ 9223372036854775807) : ∀ (d i : Nat), l.length - i = d → Ev (fun k => kimberlitelaw01_alike.l0 k l l (i : Int)) true
  | 0, i, h => Ev.step (f := fun _ => some true) (fun k => by simp only [kimberlitelaw01_alike.l0]; rw [if_neg (by omega)]) (Ev.now _)
  | d + 1, i, h => by
    refine Ev.step (fun k => ?_) (alike_l0 l hl d (i + 1) (by omega))
    simp only [kimberlitelaw01_alike.l0]
    rw [if_pos (by omega), if_pos (by omega), if_pos (by omega), if_pos trivial, wrap_succ (i := i) (n := l.length) (by omega) hl]
theorem alike_ev (l : List Int) (hl : l.length ≤ 9223372036854775807) : Ev (fun k => kimberlitelaw01_alike.f k l l) true := by
  unfold kimberlitelaw01_alike.f
  simp only [if_true]
  exact alike_l0 l hl _ 0 rfl
theorem alike_same (A : Option Addr) (c : Nat) (l : List Int) (A' : Option Addr) (c' : Nat) (w : World) (h : Kd.C (Kd.int .i64) w A l.length l) (hc : l.length ≤ c) (h' : Kd.C (Kd.int .i64) w A' l.length l) (hc' : l.length ≤ c') :
    Calls Try.prog 28 #[.slice A l.length c, .slice A' l.length c'] w fun e w' => e = .returned (.bool true) ∧ Drawn0 w w' := by
  obtain ⟨k, hk⟩ := (alike_ev l h.2.1).rounds
  exact kimberlitelaw01_alike.calls k A c l A' c' l true w h hc h' hc' hk
set_option maxHeartbeats 16000000 in
set_option maxRecDepth 100000 in
theorem SpanPoints_walk {W : World} (a0 : Option Addr) (cap0 : Nat) (l0 : List S32) (c0 : l0.length ≤ cap0) (hr0 : Kd.C k32 W a0 l0.length l0) (w0 : ∀ s ∈ l0, okS s) :
    Calls Try.prog 10 #[.slice a0 l0.length cap0] W fun e w' => e = .returned (.bool true) ∧ Below W.heap.size W w' := by
  have hm : l0.length ≤ 9223372036854775807 := hr0.2.1
  have mixed := mixedT
  have HR := Aside0.mk hr0
  have HC0 := Aside0.mk c0
  clear hr0 c0 w0
  by_cases h140 : l0.length ≤ 140
  · have HFe := Aside0.mk (show decide ((l0.length : Int) ≤ 140) = true from decide_eq_true (by omega))
    have HL := Aside0.mk h140
    obtain ⟨kp, hkp⟩ := (refPoints_ev l0).rounds
    obtain ⟨kt, hkt⟩ := (refTrays_ev l0).rounds
    obtain ⟨kd, hd1, hd2⟩ := ev_both (spanDepth_ev l0) (refDepth_ev l0)
    obtain ⟨P, D, e1, hst⟩ : ∃ P D e1, stabR l0 = (P, D, e1) := ⟨_, _, _, rfl⟩
    obtain ⟨T, n1, e2, htr⟩ : ∃ T n1 e2, trR l0 = (T, n1, e2) := ⟨_, _, _, rfl⟩
    obtain ⟨n2, at2, e3, hde⟩ : ∃ n2 at2 e3, depR l0 = (n2, at2, e3) := ⟨_, _, _, rfl⟩
    rw [hst] at hkp
    rw [htr] at hkt
    rw [hde] at hd1 hd2
    have hs1 : span_stabbed.f l0 = some (P, D, e1) := by unfold span_stabbed.f; rw [hst]
    have HS1 := Aside0.mk (show span_Stab.f l0 = some (P, e1) by unfold span_Stab.f; rw [hs1]; rfl)
    have HS2 := Aside0.mk (show span_Disjoint.f l0 = some (D, e1) by unfold span_Disjoint.f; rw [hs1]; rfl)
    have HS3 := Aside0.mk (show span_Trays.f l0 = some (T, n1, e2) by unfold span_Trays.f; rw [htr])
    have HP := Aside0.mk hkp
    have HT := Aside0.mk hkt
    have HD1 := Aside0.mk hd1
    have HD2 := Aside0.mk hd2
    clear hkp hkt hd1 hd2 hst htr hde hs1 hm h140
    go_enter Try.func10, Try.ntmps10
    go_wp2_with (go_at_call 15; refine (few_at _ _ l0 _ HR.out HC0.out true HFe.out).mono ?_; rintro e w1 ⟨rfl, hb1⟩)
    have HB := Aside0.mk hb1.below
    have HRn := Aside0.mk (Kd.C_below HR.out hb1.below); clear HR; have HR := HRn; clear HRn
    clear hb1
    go_wp2_with (go_at_call 17; refine (own_full _ _ l0 _ HR.out HL.out).mono ?_; rintro e w2 ⟨b, c, rfl, hf2, hb⟩)
    have HBn := Aside0.mk (below_then HB.out HB.out.size hb); clear HB; have HB := HBn; clear HBn
    have HRn := Aside0.mk (Kd.C_below HR.out hb); clear HR; have HR := HRn; clear HRn
    have HF := Aside0.mk hf2
    clear hb hf2
    go_wp2_with (go_at_call 42; refine (span_Stab.calls _ _ l0 P e1 _ HF.out.reads (Nat.le_of_succ_le HF.out.cap) HS1.out).mono ?_; rintro e w42 ⟨v4, rfl, hr4, hb⟩; obtain ⟨A4, c4, e4x⟩ := Kd.R_slice hr4; subst e4x)
    have HRn := Aside0.mk (Kd.C_below HR.out hb); clear HR; have HR := HRn; clear HRn
    have HFn := Aside0.mk (HF.out.below hb); clear HF; have HF := HFn; clear HFn
    have HBn := Aside0.mk (below_then HB.out HB.out.size hb); clear HB; have HB := HBn; clear HBn
    clear hb
    have HI4 := Aside0.mk (Kd.R_reads' hr4).2
    clear hr4
    go_wp2_with (go_at_call 43; refine (span_Disjoint.calls _ _ l0 D e1 _ HF.out.reads (Nat.le_of_succ_le HF.out.cap) HS2.out).mono ?_; rintro e w43 ⟨v6, rfl, hr6, hb⟩; obtain ⟨A6, c6, e6x⟩ := Kd.R_slice hr6; subst e6x)
    have HRn := Aside0.mk (Kd.C_below HR.out hb); clear HR; have HR := HRn; clear HRn
    have HFn := Aside0.mk (HF.out.below hb); clear HF; have HF := HFn; clear HFn
    have HI4n := Aside0.mk (And.intro HI4.out.1 (Kd.C_below HI4.out.2 hb)); clear HI4; have HI4 := HI4n; clear HI4n
    have HBn := Aside0.mk (below_then HB.out HB.out.size hb); clear HB; have HB := HBn; clear HBn
    clear hb
    have HI6 := Aside0.mk (Kd.R_reads' hr6).2
    clear hr6
    go_wp2_with (go_at_call 47; refine (kimberliteref01_Points.calls kp _ _ l0 P D e1 _ HR.out HC0.out HP.out).mono ?_; rintro e w47 ⟨v8, v9, rfl, hr8, hr9, hb⟩; obtain ⟨A8, c8, e8x⟩ := Kd.R_slice hr8; subst e8x; obtain ⟨A9, c9, e9x⟩ := Kd.R_slice hr9; subst e9x)
    have HRn := Aside0.mk (Kd.C_below HR.out hb); clear HR; have HR := HRn; clear HRn
    have HFn := Aside0.mk (HF.out.below hb); clear HF; have HF := HFn; clear HFn
    have HI4n := Aside0.mk (And.intro HI4.out.1 (Kd.C_below HI4.out.2 hb)); clear HI4; have HI4 := HI4n; clear HI4n
    have HI6n := Aside0.mk (And.intro HI6.out.1 (Kd.C_below HI6.out.2 hb)); clear HI6; have HI6 := HI6n; clear HI6n
    have HBn := Aside0.mk (below_then HB.out HB.out.size hb); clear HB; have HB := HBn; clear HBn
    clear hb
    have HI8 := Aside0.mk (Kd.R_reads' hr8).2
    clear hr8
    have HI9 := Aside0.mk (Kd.R_reads' hr9).2
    clear hr9
    go_wp2_with (go_at_call 28; (with_reducible refine (alike_same _ _ P _ _ _ HI4.out.2 HI4.out.1 HI8.out.2 HI8.out.1).mono ?_); rintro e wa1 ⟨rfl, hd⟩; have hb := hd.below)
    have HRn := Aside0.mk (Kd.C_below HR.out hb); clear HR; have HR := HRn; clear HRn
    have HFn := Aside0.mk (HF.out.below hb); clear HF; have HF := HFn; clear HFn
    have HI4n := Aside0.mk (And.intro HI4.out.1 (Kd.C_below HI4.out.2 hb)); clear HI4; have HI4 := HI4n; clear HI4n
    have HI6n := Aside0.mk (And.intro HI6.out.1 (Kd.C_below HI6.out.2 hb)); clear HI6; have HI6 := HI6n; clear HI6n
    have HI8n := Aside0.mk (And.intro HI8.out.1 (Kd.C_below HI8.out.2 hb)); clear HI8; have HI8 := HI8n; clear HI8n
    have HI9n := Aside0.mk (And.intro HI9.out.1 (Kd.C_below HI9.out.2 hb)); clear HI9; have HI9 := HI9n; clear HI9n
    have HBn := Aside0.mk (below_then HB.out HB.out.size hb); clear HB; have HB := HBn; clear HBn
    clear hb hd
    go_wp2_with (go_at_call 28; (with_reducible refine (alike_same _ _ D _ _ _ HI6.out.2 HI6.out.1 HI9.out.2 HI9.out.1).mono ?_); rintro e wa2 ⟨rfl, hd⟩; have hb := hd.below)
    have HRn := Aside0.mk (Kd.C_below HR.out hb); clear HR; have HR := HRn; clear HRn
    have HFn := Aside0.mk (HF.out.below hb); clear HF; have HF := HFn; clear HFn
    have HI4n := Aside0.mk (And.intro HI4.out.1 (Kd.C_below HI4.out.2 hb)); clear HI4; have HI4 := HI4n; clear HI4n
    have HI6n := Aside0.mk (And.intro HI6.out.1 (Kd.C_below HI6.out.2 hb)); clear HI6; have HI6 := HI6n; clear HI6n
    have HI8n := Aside0.mk (And.intro HI8.out.1 (Kd.C_below HI8.out.2 hb)); clear HI8; have HI8 := HI8n; clear HI8n
    have HI9n := Aside0.mk (And.intro HI9.out.1 (Kd.C_below HI9.out.2 hb)); clear HI9; have HI9 := HI9n; clear HI9n
    have HBn := Aside0.mk (below_then HB.out HB.out.size hb); clear HB; have HB := HBn; clear HBn
    clear hb hd
    go_wp2_with (go_at_call 45; refine (span_Trays.calls _ _ l0 T n1 e2 _ HF.out.reads (Nat.le_of_succ_le HF.out.cap) HS3.out).mono ?_; rintro e w45 ⟨v11, rfl, hr11, hb⟩; obtain ⟨A11, c11, e11x⟩ := Kd.R_slice hr11; subst e11x)
    have HRn := Aside0.mk (Kd.C_below HR.out hb); clear HR; have HR := HRn; clear HRn
    have HFn := Aside0.mk (HF.out.below hb); clear HF; have HF := HFn; clear HFn
    have HBn := Aside0.mk (below_then HB.out HB.out.size hb); clear HB; have HB := HBn; clear HBn
    clear hb
    have HI11 := Aside0.mk (Kd.R_reads' hr11).2
    clear hr11
    go_wp2_with (go_at_call 48; refine (kimberliteref01_Trays.calls kt _ _ l0 T n1 e2 _ HR.out HC0.out HT.out).mono ?_; rintro e w48 ⟨v13, rfl, hr13, hb⟩; obtain ⟨A13, c13, e13x⟩ := Kd.R_slice hr13; subst e13x)
    have HRn := Aside0.mk (Kd.C_below HR.out hb); clear HR; have HR := HRn; clear HRn
    have HFn := Aside0.mk (HF.out.below hb); clear HF; have HF := HFn; clear HFn
    have HI11n := Aside0.mk (And.intro HI11.out.1 (Kd.C_below HI11.out.2 hb)); clear HI11; have HI11 := HI11n; clear HI11n
    have HBn := Aside0.mk (below_then HB.out HB.out.size hb); clear HB; have HB := HBn; clear HBn
    clear hb
    have HI13 := Aside0.mk (Kd.R_reads' hr13).2
    clear hr13
    go_wp2_with (go_at_call 28; (with_reducible refine (alike_same _ _ T _ _ _ HI11.out.2 HI11.out.1 HI13.out.2 HI13.out.1).mono ?_); rintro e wa3 ⟨rfl, hd⟩; have hb := hd.below)
    have HRn := Aside0.mk (Kd.C_below HR.out hb); clear HR; have HR := HRn; clear HRn
    have HFn := Aside0.mk (HF.out.below hb); clear HF; have HF := HFn; clear HFn
    have HI11n := Aside0.mk (And.intro HI11.out.1 (Kd.C_below HI11.out.2 hb)); clear HI11; have HI11 := HI11n; clear HI11n
    have HI13n := Aside0.mk (And.intro HI13.out.1 (Kd.C_below HI13.out.2 hb)); clear HI13; have HI13 := HI13n; clear HI13n
    have HBn := Aside0.mk (below_then HB.out HB.out.size hb); clear HB; have HB := HBn; clear HBn
    clear hb hd
    go_wp2_with (go_at_call 46; refine (span_Depth.calls kd _ _ l0 n2 at2 e3 _ HF.out.reads (Nat.le_of_succ_le HF.out.cap) HD1.out).mono ?_; rintro e wd ⟨rfl, hb⟩)
    have HRn := Aside0.mk (Kd.C_below HR.out hb); clear HR; have HR := HRn; clear HRn
    have HFn := Aside0.mk (HF.out.below hb); clear HF; have HF := HFn; clear HFn
    have HBn := Aside0.mk (below_then HB.out HB.out.size hb); clear HB; have HB := HBn; clear HBn
    clear hb
    go_wp2_with (go_at_call 49; refine (kimberliteref01_Depth.calls kd _ _ l0 n2 at2 e3 _ HR.out HC0.out HD2.out).mono ?_; rintro e wr ⟨rfl, hb⟩)
    have HRn := Aside0.mk (Kd.C_below HR.out hb); clear HR; have HR := HRn; clear HRn
    have HFn := Aside0.mk (HF.out.below hb); clear HF; have HF := HFn; clear HFn
    have HBn := Aside0.mk (below_then HB.out HB.out.size hb); clear HB; have HB := HBn; clear HBn
    clear hb
    go_wp2_with (go_at_call 21; refine (kept_full _ _ _ _ _ l0 _ HF.out HR.out HC0.out HL.out).mono ?_; rintro e wk ⟨rfl, hb⟩)
    have HBn := Aside0.mk (below_then HB.out HB.out.size hb); clear HB; have HB := HBn; clear HBn hb
    go_wp2_with (go_at_call 16; refine (alive_at _).mono ?_; rintro e wz ⟨rfl, hb⟩)
    go_ret
    exact ⟨rfl, below_then HB.out HB.out.size hb⟩
  · have HF := Aside0.mk (show decide ((l0.length : Int) ≤ 140) = false from decide_eq_false (by omega))
    clear h140
    go_enter Try.func10, Try.ntmps10
    go_wp2_with (go_at_call 15; refine (few_at _ _ l0 _ HR.out HC0.out false HF.out).mono ?_; rintro e w1 ⟨rfl, hb1⟩)
    go_wp2_with (go_at_call 16; refine (alive_at _).mono ?_; rintro e w2 ⟨rfl, hb2⟩)
    go_ret
    exact ⟨rfl, below_then hb1.below hb1.below.size hb2⟩
end Go.Proofs.Ytningpmoojnomaa.Pr
end
section
namespace Go.Proofs.Ytningpmoojnomaa.spanPoints
open Go.ChangeShapes Go.WideShapes Go.ChangeAt Go.RowKit Go.Proofs.Ytningpmoojnomaa.Pr
set_option linter.unusedVariables false
theorem own : ownKnob Try.prog.godebug = none := by kernel_rfl
theorem laidOut : laidOutB Try.prog = true := by kernel_rfl
set_option maxRecDepth 100000 in
theorem lifted (os : Os) (started : os.Started) (H : Type) (enc : TypeId × Value → H) :
    ReturnsInHanded {} Try.checked os 10 .any (Rows.spanPointsSpec.pre6 enc Try.prog Try.f10 Rows.spanPointsRow.domain false) (Rows.spanPointsSpec.post enc Try.prog Try.f10 false true false false) := by
  refine returnsInHanded_of_change (C := Try.checked) own started (by kernel_rfl) Try.func10
    (ChangeSpec.witness6 (enc := enc) (C := Try.checked) false ⟨#[], #[.slice none 0 0], []⟩ 8 (by kernel_rfl) (by kernel_rfl) (by kernel_rfl) (by kernel_rfl)) ?_
  intro W base args ds gs before hval0 hW hcnd _
  have hval : ∀ (j : Nat) t v, Try.f10.params[j]? = some t → args[j]? = some v → Value.okWide Try.prog W .any base t v := hval0
  have hW' := hW
  obtain ⟨p, q, hA0, hV, rfl, hfz, hnd⟩ := hW
  have hA : DataW.TrodAll enc Try.prog W 0 (fun _ => true) true Try.f10.params.toList args.toList ds p := hA0
  rw [Try.params10] at hA hval
  obtain ⟨v0, vs0, d0, ds0, p0, q0, hargs, rfl, rfl, h0, r0⟩ := trodAll_cons hA
  obtain ⟨rfl, rfl, rfl⟩ := trodAll_nil r0
  obtain rfl : args = #[v0] := by cases args; simp_all
  obtain ⟨rfl, rfl⟩ := trodVars_none hV
  have k0 := h0
  have lt0 : ∀ x ∈ p0, x.block < W.heap.size := by obtain ⟨m, hm⟩ := k0; exact DataW.trod_lt m _ _ _ hm
  obtain ⟨a0, len0, cap0, rfl⟩ := okWide_slice Try.underlying22 (hval 0 22 v0 rfl rfl)
  obtain ⟨l0, rfl, c0, hr0, w0⟩ := open_spans h0
  clear hA0 hval0
  try simp only [List.append_nil] at hW'
  refine (SpanPoints_walk a0 cap0 l0 c0 hr0 w0).mono fun e W' ⟨he, bel⟩ => ?_
  subst he
  exact ⟨_, rfl, _, _, _, [], _, [], hW', trodAll_mk1 (shut_bool Try.underlying4 _), (trodAll_cons_mk (Below.trod laidOut (by kernel_rfl) (of_decide_eq_true (by kernel_rfl)) k0 bel lt0) trodAll_mk0), rfl, bel.frame _, fun h => by cases h⟩
theorem over : Rows.spanPointsRow.holds Try.pinned (OpenSpec.ofChange Rows.spanPointsSpec) :=
  OpenClaim.holds_of_wide 10 Try.f10 rfl rfl rfl rfl rfl rfl rfl ⟨rfl, rfl, rfl, rfl, rfl⟩ rfl rfl rfl rfl rfl (by kernel_rfl) Try.func10 (by kernel_rfl)
    (of_decide_eq_true (by kernel_rfl)) (by unfold Func.isWrapper; first | (rw [if_pos (by decide +kernel)]; kernel_rfl) | (rw [if_neg (by decide +kernel)]; exact ⟨rfl, rfl⟩))
    (fun os started H enc _ => lifted os started H enc)
theorem proved : Rows.SpanPointsSaid := over
end Go.Proofs.Ytningpmoojnomaa.spanPoints
namespace Go.Proofs.Ytningpmoojnomaa
/-- The row, under a short name, for the claim. -/
theorem spanPoints_holds : Rows.SpanPointsSaid := spanPoints.proved
end Go.Proofs.Ytningpmoojnomaa
end
