/- What the proof of the law needs, trimmed and merged by wip/pack.py out of the texts YtingjpcgehgiiaaExtAlive, YtingjpcgehgiiaaWalkCurveChain, YtingjpcgehgiiaaRowCurveChain. No condition. -/
import Derived.Test.YtingjpcgehgiiaaRows
import Derived.WalkKit
import Derived.ProofKit
import Derived.OpenShut
import Derived.ShutString
import Derived.ChangeOld
import Derived.Below
import Derived.SizedLaws
import Derived.Test.YtingjpcgehgiiaaKCurveChain0
import Derived.Test.YtingjpcgehgiiaaKCurveChain1
import Derived.Test.YtingjpcgehgiiaaKCurveChain2
section
namespace Go.Proofs.Ytingjpcgehgiiaa.Pr
open Go.RowKit Go.Shelf Go.Proofs.YtingjpcgehgiiaaW.PrintWords Go.Proofs.YtingjpcgehgiiaaW.PrintLast Go.Proofs.YtingjpcgehgiiaaW.PrintMore
set_option linter.unusedVariables false
set_option linter.unusedSimpArgs false
def kimberlitelaw03_alive.f : Option Bool := some true
theorem alive_join : curve_Join.f 0 0 [1, 3] 0 0 [2, 2] = some (0, 0, [1, 2, 2, 3], 0) := by
  have e : sortL ([1, 3] ++ [2, 2]) = [1, 2, 2, 3] := by simp [sortL, List.mergeSort, List.MergeSort.Internal.splitInTwo, List.merge]
  have e1 : validC 0 0 [1, 3] = true := by kernel_rfl
  have e2 : validC 0 0 [2, 2] = true := by kernel_rfl
  have e3 : validC 0 0 [1, 2, 2, 3] = true := by kernel_rfl
  have e4 : wrap64 (0 + 0) = 0 := by unfold wrap64; omega
  unfold curve_Join.f joinR
  rw [e, e1, e2, e4, e3]
  rfl
theorem alive_split (k : Nat) : curve_Split.f k [⟨0, 0, [1, 3]⟩, ⟨0, 0, [2, 2]⟩] 3 = some ([1, 2], 5, 2, 0) := by
  show some _ = _
  kernel_rfl
theorem alive_same1 : kimberlitelaw03_same.f 10 [1, 2, 2, 3] [1, 2, 2, 3] = some true := by kernel_rfl
theorem alive_same2 : kimberlitelaw03_same.f 10 [1, 2] [1, 2] = some true := by kernel_rfl
theorem alive_c1 (w3 : World) (Aj : Option Addr) (cj : Nat) (h1 : Kd.C (Kd.int .i64) w3 Aj 4 [1, 2, 2, 3]) (h2 : 4 ≤ cj) :
    Calls Try.prog 24 #[.slice Aj 4 cj, .slice (some ⟨w3.heap.size, 0, none⟩) 4 4] (w3.alloc (.cells #[.int .i64 1, .int .i64 2, .int .i64 2, .int .i64 3] 3)) fun e w' => e = .returned (.bool true) ∧ Drawn0 (w3.alloc (.cells #[.int .i64 1, .int .i64 2, .int .i64 2, .int .i64 3] 3)) w' :=
  kimberlitelaw03_same.calls 10 Aj cj [1, 2, 2, 3] (some ⟨w3.heap.size, 0, none⟩) 4 [1, 2, 2, 3] true _ (Kd.C_alloc h1 _) h2 (C_lit [1, 2, 2, 3] (blk_new w3 (.cells #[.int .i64 1, .int .i64 2, .int .i64 2, .int .i64 3] 3)) (by decide)) (by decide) alive_same1
theorem alive_c2 (As : Option Addr) (cs : Nat) (h2 : 2 ≤ cs) (w4 : World) (h1 : Kd.C (Kd.int .i64) w4 As 2 [1, 2]) :
    Calls Try.prog 24 #[.slice As 2 cs, .slice (some ⟨w4.heap.size, 0, none⟩) 2 2] (w4.alloc (.cells #[.int .i64 1, .int .i64 2] 3)) fun e w' => e = .returned (.bool true) ∧ Drawn0 (w4.alloc (.cells #[.int .i64 1, .int .i64 2] 3)) w' :=
  kimberlitelaw03_same.calls 10 As cs [1, 2] (some ⟨w4.heap.size, 0, none⟩) 2 [1, 2] true _ (Kd.C_alloc h1 _) h2 (C_lit [1, 2] (blk_new w4 (.cells #[.int .i64 1, .int .i64 2] 3)) (by decide)) (by decide) alive_same2
set_option maxHeartbeats 400000 in
set_option maxRecDepth 100000 in
theorem kimberlitelaw03_alive.calls (r : Bool) (w : World) (h : kimberlitelaw03_alive.f = some r) :
    Calls Try.prog 17 #[] w fun e w' => e = .returned (.bool r) ∧ Below w.heap.size w w' := by
  obtain rfl : true = r := Option.some.inj h
  have hu24 := Try.underlying24
  have A0 := C_lit [1, 3] (blk_new w (.cells #[.int .i64 1, .int .i64 3] 3)) (by decide)
  have B0 := blk_new (w.alloc (.cells #[.int .i64 1, .int .i64 3] 3)) (.cells #[.int .i64 2, .int .i64 2] 3)
  rw [World.size_alloc] at B0
  replace B0 := C_lit [2, 2] B0 (by decide)
  have HA := Aside0.mk A0
  have HB := Aside0.mk B0
  have C0 := blk_new ((w.alloc (.cells #[.int .i64 1, .int .i64 3] 3)).alloc (.cells #[.int .i64 2, .int .i64 2] 3)) (.cells #[.int .i64 0, .int .i64 0, .slice (some ⟨w.heap.size, 0, none⟩) 2 2] 24)
  have D0 := blk_new (((w.alloc (.cells #[.int .i64 1, .int .i64 3] 3)).alloc (.cells #[.int .i64 2, .int .i64 2] 3)).alloc (.cells #[.int .i64 0, .int .i64 0, .slice (some ⟨w.heap.size, 0, none⟩) 2 2] 24)) (.cells #[.int .i64 0, .int .i64 0, .slice (some ⟨w.heap.size + 1, 0, none⟩) 2 2] 24)
  rw [World.size_alloc, World.size_alloc] at C0
  rw [World.size_alloc, World.size_alloc, World.size_alloc] at D0
  replace C0 := blk_alloc C0 (.cells #[.int .i64 0, .int .i64 0, .slice (some ⟨w.heap.size + 1, 0, none⟩) 2 2] 24)
  have HL4 := Aside0.mk (below_alloc (below_alloc (below_alloc (below_alloc (Below.refl w.heap.size w) (.cells #[.int .i64 1, .int .i64 3] 3)) (.cells #[.int .i64 2, .int .i64 2] 3)) (.cells #[.int .i64 0, .int .i64 0, .slice (some ⟨w.heap.size, 0, none⟩) 2 2] 24)) (.cells #[.int .i64 0, .int .i64 0, .slice (some ⟨w.heap.size + 1, 0, none⟩) 2 2] 24))
  have HC := Aside0.mk C0
  have HD := Aside0.mk D0
  clear A0 B0 C0 D0
  go_enter Try.func17, Try.ntmps17
  go_upto_region 3 with (go_at_call 14; (refine (curve_Join.calls 0 0 _ _ [1, 3] 0 0 _ _ [2, 2] 0 0 [1, 2, 2, 3] 0 _ (Kd.C_alloc (Kd.C_alloc (Kd.C_alloc HA.out _) _) _) (by decide) (Kd.C_alloc (Kd.C_alloc HB.out _) _) (by decide) alive_join).mono ?_); rintro e w1 ⟨vj, rfl, hr1, hb1⟩; obtain ⟨Aj, cj, ej⟩ := Kd.R_slice hr1; subst ej; have HR1 := Aside0.mk hr1; have HB1 := Aside0.mk hb1; clear hr1 hb1)
  have K0 := blk_new w1 (.cells #[.int .i64 0, .int .i64 0, .slice Aj 4 cj] 24)
  have HR2 := Aside0.mk (Kd.C_alloc (Kd.R_reads' HR1.out).2.2 (.cells #[.int .i64 0, .int .i64 0, .slice Aj 4 cj] 24))
  have HRl := Aside0.mk (Kd.R_reads' HR1.out).2.1
  have HK := Aside0.mk K0
  have HC2 := Aside0.mk (blk_alloc (blk_below HC.out HB1.out) (.cells #[.int .i64 0, .int .i64 0, .slice Aj 4 cj] 24))
  have HD2 := Aside0.mk (blk_alloc (blk_below HD.out HB1.out) (.cells #[.int .i64 0, .int .i64 0, .slice Aj 4 cj] 24))
  have HA2 := Aside0.mk (Kd.C_alloc (Kd.C_below (Kd.C_alloc (Kd.C_alloc (Kd.C_alloc HA.out _) _) _) HB1.out) (.cells #[.int .i64 0, .int .i64 0, .slice Aj 4 cj] 24))
  have HBB2 := Aside0.mk (Kd.C_alloc (Kd.C_below (Kd.C_alloc (Kd.C_alloc HB.out _) _) HB1.out) (.cells #[.int .i64 0, .int .i64 0, .slice Aj 4 cj] 24))
  have HL5 := Aside0.mk (below_alloc (below_then HL4.out HL4.out.size HB1.out) (.cells #[.int .i64 0, .int .i64 0, .slice Aj 4 cj] 24))
  clear K0 HA HB HC HD HR1 HB1 HL4
  try simp only [Act.put, List.setIfInBounds_toArray, List.set_cons_zero, List.set_cons_succ]
  generalize w1.alloc (.cells #[.int .i64 0, .int .i64 0, .slice Aj 4 cj] 24) = w2 at HK HC2 HD2 HA2 HBB2 HL5 HR2 ⊢
  generalize w1.heap.size = g3 at HK ⊢
  generalize w.heap.size + 1 + 1 + 1 = gd at HD2 ⊢
  generalize w.heap.size + 1 + 1 = gc at HC2 ⊢
  generalize w.heap.size + 1 = gb at HD2 HBB2 ⊢
  have c0 : w2.cell? ⟨gc, 0, none⟩ = some (.int .i64 0) := (blk_cell HC2.out 0).trans rfl
  have c1 : w2.cell? ⟨gc, 1, none⟩ = some (.int .i64 0) := (blk_cell HC2.out 1).trans rfl
  have c2 : w2.cell? ⟨gc, 2, none⟩ = some (.slice (some ⟨w.heap.size, 0, none⟩) 2 2) := (blk_cell HC2.out 2).trans rfl
  have d0 : w2.cell? ⟨gd, 0, none⟩ = some (.int .i64 0) := (blk_cell HD2.out 0).trans rfl
  have d1 : w2.cell? ⟨gd, 1, none⟩ = some (.int .i64 0) := (blk_cell HD2.out 1).trans rfl
  have d2 : w2.cell? ⟨gd, 2, none⟩ = some (.slice (some ⟨gb, 0, none⟩) 2 2) := (blk_cell HD2.out 2).trans rfl
  go_upto_region 4 with (go_at_call 19; (refine (curve_Split.calls 0 _ _ [⟨0, 0, [1, 3]⟩, ⟨0, 0, [2, 2]⟩] 3 [1, 2] 5 2 0 _ (C_lit24 ⟨0, 0, [1, 3]⟩ ⟨0, 0, [2, 2]⟩ (some ⟨w.heap.size, 0, none⟩) (some ⟨gb, 0, none⟩) 2 2 (blk_new w2 _) (by decide) (by decide) (Kd.C_alloc HA2.out _) (Kd.C_alloc HBB2.out _)) (by decide) (alive_split 0)).mono ?_); rintro e w3 ⟨vs, rfl, hr3, hb3⟩; obtain ⟨As, cs, es⟩ := Kd.R_slice hr3; subst es; have HS := Aside0.mk (Kd.R_reads' hr3); have HB3 := Aside0.mk (below_then (below_alloc HL5.out _) (below_alloc HL5.out _).size hb3); have HR3 := Aside0.mk (Kd.C_below (Kd.C_alloc HR2.out _) hb3); have HK3 := Aside0.mk (blk_below (blk_alloc HK.out _) hb3); clear hr3 hb3)
  clear c0 c1 c2 d0 d1 d2 HK HC2 HD2 HA2 HBB2 HL5 HR2
  try simp only [Act.put, List.setIfInBounds_toArray, List.set_cons_zero, List.set_cons_succ]
  have c2 : w3.cell? ⟨g3, 2, none⟩ = some (.slice Aj 4 cj) := (blk_cell HK3.out 2).trans rfl
  have mixed : Try.prog.follows .mixedOrders = true := by kernel_rfl
  have HL1 := Aside0.mk (C_lit [1, 2, 2, 3] (blk_new w3 (.cells #[.int .i64 1, .int .i64 2, .int .i64 2, .int .i64 3] 3)) (by decide))
  have HLs := Aside0.mk (Kd.C_alloc HS.out.2.2 (.cells #[.int .i64 1, .int .i64 2, .int .i64 2, .int .i64 3] 3))
  have HB4 := Aside0.mk (below_alloc HB3.out (.cells #[.int .i64 1, .int .i64 2, .int .i64 2, .int .i64 3] 3))
  have HC1 := Aside0.mk (show Calls Try.prog 24 #[.slice Aj 4 cj, .slice (some ⟨w3.heap.size, 0, none⟩) 4 4] (w3.alloc (.cells #[.int .i64 1, .int .i64 2, .int .i64 2, .int .i64 3] 3)) fun e w' => e = .returned (.bool true) ∧ Drawn0 (w3.alloc (.cells #[.int .i64 1, .int .i64 2, .int .i64 2, .int .i64 3] 3)) w' from alive_c1 w3 Aj cj HR3.out HRl.out)
  have HC2 := Aside0.mk (alive_c2 As cs HS.out.2.1)
  clear HL1 HR3 HRl
  have HS2 := Aside0.mk HS.out.2.2
  clear HS
  go_wp2_with (first | (go_at_call 24; (with_reducible refine HC1.out.mono ?_); rintro e w4 ⟨rfl, hd⟩; have HB5 := Aside0.mk (below_then HB4.out HB4.out.size hd.below); have HS5 := Aside0.mk (Kd.C_below HLs.out hd.below); clear hd HC1) | (go_at_call 24; (with_reducible refine (HC2.out _ HS5.out).mono ?_); rintro e w5 ⟨rfl, hd⟩; have HB6 := Aside0.mk (below_then (below_alloc HB5.out _) (below_alloc HB5.out _).size hd.below); clear hd))
  go_ret
  exact ⟨rfl, HB6.out⟩
end Go.Proofs.Ytingjpcgehgiiaa.Pr
end
section
namespace Go.Proofs.Ytingjpcgehgiiaa.Pr
open Go.RowKit Go.Shelf Go.Proofs.YtingjpcgehgiiaaW.PrintWords Go.Proofs.YtingjpcgehgiiaaW.PrintLast Go.Proofs.YtingjpcgehgiiaaW.PrintMore
set_option linter.unusedVariables false
set_option linter.unusedSimpArgs false
/-- The slopes of the curve at hand: the caller's, or a row of the call's own. -/
def Slo (w W : World) (v : Value) (l : List Int) : Prop := (∃ A cap, v = .slice A l.length cap ∧ l.length ≤ cap ∧ Kd.C (Kd.int .i64) w A l.length l) ∨ Kd.R (Kd.int .i64) 3 W w.heap.size (fun _ => True) v l
theorem Slo.below {w W W' : World} {v : Value} {l : List Int} (h : Slo w W v l) (hb : Below W.heap.size W W') : Slo w W' v l := h.imp id fun h => Kd.R_below h hb
theorem Slo.put {w W : World} {v : Value} {l : List Int} {g j : Nat} {cs : Array Value} (h : Slo w W v l) (hg : W.heap[g]? = some (.cells cs 24 (0, 0))) (u : Value) : Slo w (W.setCell ⟨g, j, none⟩ u) v l :=
  h.imp id fun h => Kd.R_mono (Kd.R_far (p := ⟨g, j, none⟩) (Kd.R_types h hg (by decide)) (fun _ hk => hk.2) _) (fun _ _ => trivial)
theorem Slo.reads {w W : World} {v : Value} {l : List Int} (h : Slo w W v l) (hb : Below w.heap.size w W) : ∃ A cap, v = .slice A l.length cap ∧ l.length ≤ cap ∧ Kd.C (Kd.int .i64) W A l.length l := by
  rcases h with ⟨A, cap, h1, h2, h3⟩ | h
  · exact ⟨A, cap, h1, h2, Kd.C_below h3 hb⟩
  · obtain ⟨A, cap, rfl⟩ := Kd.R_slice h
    exact ⟨A, cap, rfl, (Kd.R_reads' h).2.1, (Kd.R_reads' h).2.2⟩
theorem split_ok {l : List S24} {a1 : Int} {r1 : List Int} {r2 r3 : Int} (h : splitR l a1 = (r1, r2, r3, 0)) : ∃ k, l.length = k + 1 ∧ k < 8 ∧ AllV l ∧ inC (chn l k) a1 ∧ valC (chn l k) a1 = r2 := by
  unfold splitR at h
  by_cases h8 : 8 < l.length
  · rw [if_pos h8] at h; simp at h
  by_cases h0 : l.length = 0
  · rw [if_neg h8, if_pos h0] at h; simp at h
  by_cases hv : l.any (fun x => !validC x.f0 x.f1 x.f2) = true
  · rw [if_neg h8, if_neg h0, if_pos hv] at h; simp at h
  rw [if_neg h8, if_neg h0, if_neg hv] at h
  unfold splitOk at h
  by_cases hlo : a1 < loS l
  · rw [if_pos hlo] at h; simp at h
  by_cases hhi : hiS l < a1
  · rw [if_neg hlo, if_pos hhi] at h; simp at h
  rw [if_neg hlo, if_neg hhi] at h
  have hV : AllV l := fun c hc => by
    apply Classical.byContradiction
    intro hh
    apply hv
    rw [List.any_eq_true]
    exact ⟨c, hc, by simpa using hh⟩
  have D := split_div hV (by omega) (show a1 ≤ hiS l by omega)
  have hk : l.length = (l.length - 1) + 1 := by omega
  obtain ⟨c1, c2⟩ := chn_cost D (by omega) hk
  simp only [Prod.mk.injEq] at h
  exact ⟨l.length - 1, hk, by omega, hV, c1, c2.trans h.2.1⟩
theorem allV_at {l : List S24} (h : AllV l) {i : Nat} (hi : i < l.length) : Vc (l.getD i z24) := by
  rw [List.getD_eq_getElem?_getD, List.getElem?_eq_getElem hi]
  exact h _ (List.getElem_mem hi)
theorem Slo.c {w W : World} {A : Option Addr} {cap : Nat} {l : List Int} (h : Slo w W (.slice A l.length cap) l) (hb : Below w.heap.size w W) : Kd.C (Kd.int .i64) W A l.length l := by
  obtain ⟨A', cap', e, _, h3⟩ := h.reads hb
  injection e with e1 e2 e3
  subst e1
  exact h3
theorem bc_ {w w' : World} {a : Addr} {v : Value} (hb : Below w.heap.size w w') (h : w.cell? a = some v) : w'.cell? a = some v := (hb.cell (World.block_lt_of_cell? _ _ h)).trans h
def chain_T8 : Bool × List (List Nat × List Nat) := (true, [([], []), ([], []), ([], []), ([1, 2], [1, 2]), ([3], [3]), ([0, 4], [0, 4]), ([5], [5]), ([6], [6]), ([6], [6]), ([], []), ([9, 7, 5, 0, 1, 2, 3, 4, 5, 6, 7, 9], [7, 9]), ([8, 10, 0, 1, 2, 3, 4, 5, 6, 7, 8, 9, 10], [8])])
def chain_B8 : List Nat := [0, 0, 0, 6, 14, 31, 63, 127, 127, 0, 767, 2047]
theorem chain_tab8 : rtab .any (opsOf Try.f5 8) = chain_T8 := by kernel_rfl
theorem chain_bits8 : waitsOk chain_T8.2 chain_B8 = true := by kernel_rfl
set_option maxHeartbeats 1000000 in
set_option maxRecDepth 100000 in
theorem CurveChain_walk {W : World} (a0 : Option Addr) (cap0 : Nat) (l0 : List S24) (c0 : l0.length ≤ cap0) (hr0 : Kd.C k24 W a0 l0.length l0) (w0 : ∀ s ∈ l0, okC s) (a1 : Int) (b1 : (Lit.int .i64 a1).wf = true) :
    Calls Try.prog 5 #[.slice a0 l0.length cap0, .int .i64 a1] W fun e w' => e = .returned (.bool true) ∧ Below W.heap.size W w' := by
  have hu24 := Try.underlying24
  obtain ⟨⟨r1, r2, r3, r4⟩, hsp⟩ : ∃ r, splitR l0 a1 = r := ⟨_, rfl⟩
  have HSP := Aside0.mk (show curve_Split.f 0 l0 a1 = some (r1, r2, r3, r4) from congrArg some hsp)
  have HR := Aside0.mk hr0
  have HC := Aside0.mk c0
  clear b1 w0 hr0 c0
  go_enter Try.func5, Try.ntmps5
  go_upto_region 2 with (go_at_call 19; (with_reducible refine (curve_Split.calls 0 _ _ l0 a1 r1 r2 r3 r4 _ HR.out HC.out HSP.out).mono ?_); rintro e w1 ⟨vs, rfl, hr3, hb3⟩; have HB := Aside0.mk hb3; clear hr3 hb3)
  by_cases h4 : r4 = 0
  · subst h4
    obtain ⟨k, k1, k2, hV, hin, hval⟩ := split_ok hsp
    have HK1 := Aside0.mk k1
    have HV := Aside0.mk hV
    have HIN := Aside0.mk hin
    have HVAL := Aside0.mk hval
    have hpos : 0 < l0.length := by omega
    obtain ⟨ad, A2, c2, e, hx0, hx1, hx2, hl2, hc2⟩ := at_T24 HR.out 0 (by omega) (by omega)
    have hg0 : rd_T24 l0 0 = chn l0 0 := rfl
    rw [hg0] at hx0 hx1 hx2 hl2 hc2
    have ead : ad.add (Int.toNat 0 * 3) = ad := by simp [Addr.add]
    rw [ead] at hx0 hx1 hx2
    replace hx0 := (HB.out.cell (World.block_lt_of_cell? W _ hx0)).trans hx0
    replace hx1 := (HB.out.cell (World.block_lt_of_cell? W _ hx1)).trans hx1
    replace hx2 := (HB.out.cell (World.block_lt_of_cell? W _ hx2)).trans hx2
    subst e
    have HL2 := Aside0.mk hl2
    have HC2 := Aside0.mk hc2
    clear hl2 hc2 hV hin hval hsp k1
    go_upto_region 5 with (fail)
    go_wp2
    have BK := Aside0.mk (blk_new w1 (.cells #[.int .i64 (chn l0 0).f0, .int .i64 (chn l0 0).f1, .slice A2 (chn l0 0).f2.length c2] 24))
    have HB1 := Aside0.mk (below_alloc HB.out (.cells #[.int .i64 (chn l0 0).f0, .int .i64 (chn l0 0).f1, .slice A2 (chn l0 0).f2.length c2] 24))
    generalize c2 = cap2 at HL2 HC2 BK HB1 hx2 ⊢
    have HS1 := Aside0.mk (show Slo W (w1.alloc (.cells #[.int .i64 (chn l0 0).f0, .int .i64 (chn l0 0).f1, .slice A2 (chn l0 0).f2.length cap2] 24)) (.slice A2 (chn l0 0).f2.length cap2) (chn l0 0).f2 from .inl ⟨A2, cap2, rfl, HL2.out, HC2.out⟩)
    have HW1 := Aside0.mk (below_size HB.out)
    go_loopg [10] l0.length (fun gg v10 wr => ∃ (m : Nat) (vb : Value), m + 1 ≤ l0.length ∧ l0.length - (m + 1) ≤ gg ∧ v10 = .int .i64 ((m + 1 : Nat) : Int) ∧ Aside0 (wr.heap[w1.heap.size]? = some (.cells #[.int .i64 (chn l0 m).f0, .int .i64 (chn l0 m).f1, vb] 24 (0, 0))) ∧ Aside0 (Slo W wr vb (chn l0 m).f2) ∧ Aside0 (Vc (chn l0 m)) ∧ Aside0 (Below W.heap.size W wr))
    case atStart => exact ⟨0, _, by omega, by omega, rfl, BK, HS1, ⟨allV_at HV.out hpos⟩, HB1⟩
    case round =>
      obtain ⟨m, vb, hm1, hg, rfl, BK, HS, HVc, HB⟩ := hrel
      have hm2 : l0.length ≤ 8 := by have := HK1.out; omega
      obtain ⟨mi, hmi⟩ : ∃ mi, m + 1 = mi := ⟨_, rfl⟩
      rw [hmi] at hm1 hg ⊢
      have hms := Aside0.mk hmi
      by_cases hlt : mi < l0.length
      · have hltz : (mi : Int) < (l0.length : Int) := by omega
        have h0m : (0 : Int) ≤ (mi : Int) := by omega
        obtain ⟨Ab, cb, evb, hlb, hcb⟩ := HS.out.reads HB.out
        subst evb
        obtain ⟨ad2, A3, c3, e, hx0, hx1, hx2, hl2, hc2⟩ := at_T24 HR.out (mi : Int) (by omega) hltz
        obtain rfl : ad = ad2 := Option.some.inj e
        have er : rd_T24 l0 (mi : Int) = l0.getD mi z24 := by unfold rd_T24; rw [Int.toNat_natCast]
        rw [er] at hx0 hx1 hx2 hl2 hc2
        rw [Int.toNat_natCast] at hx0 hx1 hx2
        clear er e
        have hv2 := allV_at HV.out hlt
        have hj := joinR_eq HVc.out hv2
        have hch : joinC (chn l0 m) (l0.getD mi z24) = chn l0 mi := by rw [← hmi]; rfl
        rw [hch] at hj
        generalize l0.getD mi z24 = y at hx0 hx1 hx2 hl2 hc2 hj hv2 hch
        have HAD := Aside0.mk (World.block_lt_of_cell? W _ hx0)
        replace hx0 := (HB.out.cell (World.block_lt_of_cell? W _ hx0)).trans hx0
        replace hx1 := (HB.out.cell (World.block_lt_of_cell? W _ hx1)).trans hx1
        replace hx2 := (HB.out.cell (World.block_lt_of_cell? W _ hx2)).trans hx2
        have z0 : wr.cell? ⟨w1.heap.size, 0, none⟩ = some (.int .i64 (chn l0 m).f0) := (blk_cell BK.out 0).trans rfl
        have z1 : wr.cell? ⟨w1.heap.size, 1, none⟩ = some (.int .i64 (chn l0 m).f1) := (blk_cell BK.out 1).trans rfl
        have z2 : wr.cell? ⟨w1.heap.size, 2, none⟩ = some (.slice Ab (chn l0 m).f2.length cb) := (blk_cell BK.out 2).trans rfl
        have HLb := Aside0.mk hlb
        have HLy := Aside0.mk hl2
        have HCy := Aside0.mk hc2
        obtain ⟨⟨q1, q2, q3, q4⟩, hq⟩ : ∃ q, joinR (chn l0 m).f0 (chn l0 m).f1 (chn l0 m).f2 y.f0 y.f1 y.f2 = q := ⟨_, rfl⟩
        have HJ := Aside0.mk (show curve_Join.f (chn l0 m).f0 (chn l0 m).f1 (chn l0 m).f2 y.f0 y.f1 y.f2 = some (q1, q2, q3, q4) from congrArg some hq)
        have HJ2 := Aside0.mk (hq.symm.trans hj)
        clear hlb hcb hl2 hc2 hch hv2 hj hq hmi
        go_upto_region 8 with (fail)
        refine start_ (n := 12) (S := fun w' => (w'.cell? ⟨w1.heap.size, 0, none⟩ = some (.int .i64 (chn l0 m).f0) ∧ w'.cell? ⟨w1.heap.size, 1, none⟩ = some (.int .i64 (chn l0 m).f1) ∧ w'.cell? ⟨w1.heap.size, 2, none⟩ = some (.slice Ab (chn l0 m).f2.length cb) ∧ w'.cell? (ad.add (mi * 3)) = some (.int .i64 y.f0) ∧ w'.cell? ⟨(ad.add (mi * 3)).block, (ad.add (mi * 3)).off + 1, none⟩ = some (.int .i64 y.f1) ∧ w'.cell? ⟨(ad.add (mi * 3)).block, (ad.add (mi * 3)).off + 2, none⟩ = some (.slice A3 y.f2.length c3))) (ds := []) #[false, false, false, false, false, false, false, false, false, false, false, false] (by kernel_rfl) rfl rfl ⟨z0, z1, z2, hx0, hx1, hx2⟩ (fun hHeld => ?_); refine with_tabW chain_tab8 chain_bits8 (fun HT_ HW_ => ?_)
        clear z0 z1 z2 hx0 hx1 hx2
        have n0_ := Aside0.mk (blk_drew BK.out)
        have n1_ := Aside0.mk (below_drew1 HB.out)
        have n2_ := Aside0.mk (HS.out.below (below_drew1 (Below.refl wr.heap.size wr)))
        clear BK HB HS
        have BK := n0_
        have HB := n1_
        have HS := n2_
        clear n0_ n1_ n2_
        generalize wr.drew = w3 at BK HB HS hHeld ⊢
        refine pure_ (i := 1) (N := some 37) (v := ?_) (a' := ?_) #[false, true, false, false, false, false, false, false, false, false, false, false] rfl rfl (any_of HT_.out (by kernel_rfl)) (fun _ _ _ h => h) (Or.inl ⟨by rfl, ?_⟩) ?_ ?_
        rotate_left
        · intro w'
          go_simp
          with_reducible rfl
        rotate_left
        · simp only [Act.put, List.setIfInBounds_toArray, List.set_cons_zero, List.set_cons_succ, i64_w, i32_w]
          rfl
        refine pure_ (i := 2) (N := some 38) (v := ?_) (a' := ?_) #[false, true, true, false, false, false, false, false, false, false, false, false] rfl rfl (any_of HT_.out (by kernel_rfl)) (fun _ _ _ h => h) (Or.inl ⟨by rfl, ?_⟩) ?_ ?_
        rotate_left
        · intro w'
          go_simp
          with_reducible rfl
        rotate_left
        · simp only [Act.put, List.setIfInBounds_toArray, List.set_cons_zero, List.set_cons_succ, i64_w, i32_w]
          rfl
        refine pure_ (i := 3) (N := some 39) (v := ?_) (a' := ?_) #[false, true, true, true, false, false, false, false, false, false, false, false] rfl rfl (any_of HT_.out (by kernel_rfl)) (fun _ _ _ h => h) (Or.inl ⟨by rfl, ?_⟩) ?_ ?_
        rotate_left
        · intro w'
          go_simp
          with_reducible rfl
        rotate_left
        · simp only [Act.put, List.setIfInBounds_toArray, List.set_cons_zero, List.set_cons_succ, i64_w, i32_w]
          rfl
        refine take_ (i := 0) (N := some 36) (v := ?_) (a' := ?_) #[true, true, true, true, false, false, false, false, false, false, false, false] rfl rfl (take_ofW HT_.out HW_.out (by kernel_rfl)) (fun _ _ _ h => h) (Or.inl ⟨by rfl, ?_⟩) hHeld ?_ ?_
        rotate_left
        · rintro w' ⟨s0, s1, s2, s3, s4, s5⟩
          go_simp
          with_reducible rfl
        rotate_left
        · simp only [Act.put, List.setIfInBounds_toArray, List.set_cons_zero, List.set_cons_succ, i64_w, i32_w]
          rfl
        refine take_ (i := 4) (N := some 40) (v := ?_) (a' := ?_) #[true, true, true, true, true, false, false, false, false, false, false, false] rfl rfl (take_ofW HT_.out HW_.out (by kernel_rfl)) (fun _ _ _ h => h) (Or.inl ⟨by rfl, ?_⟩) hHeld ?_ ?_
        rotate_left
        · rintro w' ⟨s0, s1, s2, s3, s4, s5⟩
          go_simp
          with_reducible rfl
        rotate_left
        · simp only [Act.put, List.setIfInBounds_toArray, List.set_cons_zero, List.set_cons_succ, i64_w, i32_w]
          rfl
        refine join_ (σ := Value × Nat) 2 #[true, true, true, true, true, true, true, true, true, true, false, false] (fun s_ => [(41, .tuple #[.agg #[.int .i64 q1, .int .i64 q2, s_.1], .int .i64 q4]), (35, .tuple #[.agg #[.int .i64 q1, .int .i64 q2, s_.1], .int .i64 q4]), (42, .agg #[.int .i64 q1, .int .i64 q2, s_.1]), (43, .int .i64 q4), (11, .pointer (some ⟨s_.2, 0, none⟩))]) (fun s_ w' => (w'.cell? ⟨w1.heap.size, 0, none⟩ = some (.int .i64 (chn l0 m).f0) ∧ w'.cell? ⟨w1.heap.size, 1, none⟩ = some (.int .i64 (chn l0 m).f1) ∧ w'.cell? ⟨w1.heap.size, 2, none⟩ = some (.slice Ab (chn l0 m).f2.length cb) ∧ w'.cell? (ad.add (mi * 3)) = some (.int .i64 y.f0) ∧ w'.cell? ⟨(ad.add (mi * 3)).block, (ad.add (mi * 3)).off + 1, none⟩ = some (.int .i64 y.f1) ∧ w'.cell? ⟨(ad.add (mi * 3)).block, (ad.add (mi * 3)).off + 2, none⟩ = some (.slice A3 y.f2.length c3)) ∧ Kd.R (Kd.int .i64) 3 w' W.heap.size (fun _ => True) s_.1 q3 ∧ w'.heap[w1.heap.size]? = some (.cells #[.int .i64 (chn l0 m).f0, .int .i64 (chn l0 m).f1, .slice Ab (chn l0 m).f2.length cb] 24 (0, 0)) ∧ w'.heap[s_.2]? = some (.cells #[.int .i64 0, .int .i64 0, .slice none 0 0] 24 (0, 0)) ∧ w1.heap.size ≠ s_.2 ∧ W.heap.size ≤ s_.2 ∧ Below W.heap.size W w') ?_ ?_
        rotate_left
        · intro hJ
          refine two_ (i := 5) (j := 9) (Ni := some 41) (Nj := some 11) #[true, true, true, true, true, true, false, false, false, false, false, false] #[true, true, true, true, true, false, false, false, false, true, false, false] rfl rfl rfl rfl (two_of HT_.out (by kernel_rfl)) (by decide) (by decide) (fun K hK => ?_) (fun K hK => ?_)
          · skip
            refine goes_ Try.func14 (by kernel_rfl) rfl #[.agg #[.int .i64 (chn l0 m).f0, .int .i64 (chn l0 m).f1, .slice Ab (chn l0 m).f2.length cb], .agg #[.int .i64 y.f0, .int .i64 y.f1, .slice A3 y.f2.length c3]] (by rfl) rfl rfl (by (try simp only [List.map_toArray, List.map_cons, List.map_nil]); first | done | rfl) ?_
            with_reducible refine (curve_Join.calls _ _ Ab cb _ _ _ A3 c3 _ _ _ _ _ _ (HS.out.c HB.out) HLb.out (Kd.C_below HCy.out HB.out) HLy.out HJ.out).mono ?_
            rintro e w4 ⟨vj, rfl, ho0, hb⟩
            refine ⟨_, rfl, ?_⟩
            have n0_ := Aside0.mk (blk_below BK.out hb)
            have n1_ := Aside0.mk (below_step HB.out hb)
            have n2_ := Aside0.mk (HS.out.below hb)
            have HRj := Aside0.mk (Kd.R_lower ho0 (below_size HB.out))
            refine hK.out _ _ ⟨bc_ hb hHeld.1, bc_ hb hHeld.2.1, bc_ hb hHeld.2.2.1, bc_ hb hHeld.2.2.2.1, bc_ hb hHeld.2.2.2.2.1, bc_ hb hHeld.2.2.2.2.2⟩ (fun hHeld2 => ?_)
            clear BK HB HS hHeld hb ho0
            have BK := n0_
            have HB := n1_
            have HS := n2_
            have hHeld := hHeld2
            clear n0_ n1_ n2_ hHeld2
            clear hK K
            refine norm_ (a' := ?_) ?_ ?_
            rotate_left
            · show Act.put _ (some 41) _ = _
              simp only [Act.put, List.setIfInBounds_toArray, List.set_cons_zero, List.set_cons_succ, i64_w, i32_w]
              rfl
            refine pure_ (i := 6) (N := some 35) (v := ?_) (a' := ?_) #[true, true, true, true, true, true, true, false, false, false, false, false] rfl rfl (any_of HT_.out (by kernel_rfl)) (fun _ _ _ h => h) (Or.inl ⟨by rfl, ?_⟩) ?_ ?_
            rotate_left
            · intro w'
              go_simp
              with_reducible rfl
            rotate_left
            · simp only [Act.put, List.setIfInBounds_toArray, List.set_cons_zero, List.set_cons_succ, i64_w, i32_w]
              rfl
            refine pure_ (i := 7) (N := some 42) (v := ?_) (a' := ?_) #[true, true, true, true, true, true, true, true, false, false, false, false] rfl rfl (any_of HT_.out (by kernel_rfl)) (fun _ _ _ h => h) (Or.inl ⟨by rfl, ?_⟩) ?_ ?_
            rotate_left
            · intro w'
              go_simp
              with_reducible rfl
            rotate_left
            · simp only [Act.put, List.setIfInBounds_toArray, List.set_cons_zero, List.set_cons_succ, i64_w, i32_w]
              rfl
            refine pure_ (i := 8) (N := some 43) (v := ?_) (a' := ?_) #[true, true, true, true, true, true, true, true, true, false, false, false] rfl rfl (any_of HT_.out (by kernel_rfl)) (fun _ _ _ h => h) (Or.inl ⟨by rfl, ?_⟩) ?_ ?_
            rotate_left
            · intro w'
              go_simp
              with_reducible rfl
            rotate_left
            · simp only [Act.put, List.setIfInBounds_toArray, List.set_cons_zero, List.set_cons_succ, i64_w, i32_w]
              rfl
            refine one_ (i := 9) (N := some 11) #[true, true, true, true, true, true, true, true, true, true, false, false] rfl rfl (one_of HT_.out (by kernel_rfl)) (by decide) (fun K hK => ?_)
            refine box_step ?hg (N := 11) ?hd (cs := #[.int .i64 0, .int .i64 0, .slice none 0 0]) (t := 24) ?hr ?_; (case hd => rfl); (case hg => rfl); (case hr => first | (go_simp; done) | (go_simp; rfl))
            intro g11 hg11 w5 hbox hb
            have HNE := Aside0.mk (show w1.heap.size ≠ g11 by rw [hg11]; exact Nat.ne_of_lt (blk_lt BK.out))
            have HGE := Aside0.mk (show W.heap.size ≤ g11 by rw [hg11]; exact below_size HB.out)
            have n0_ := Aside0.mk (blk_below BK.out hb)
            have n1_ := Aside0.mk (below_step HB.out hb)
            have n2_ := Aside0.mk (HS.out.below hb)
            have HX := Aside0.mk hbox
            have HRk := Aside0.mk (Kd.R_below HRj.out hb)
            refine hK.out _ _ ⟨bc_ hb hHeld.1, bc_ hb hHeld.2.1, bc_ hb hHeld.2.2.1, bc_ hb hHeld.2.2.2.1, bc_ hb hHeld.2.2.2.2.1, bc_ hb hHeld.2.2.2.2.2⟩ (fun hHeld2 => ?_)
            clear BK HB HS hHeld hb hbox hg11
            have BK := n0_
            have HB := n1_
            have HS := n2_
            have hHeld := hHeld2
            clear n0_ n1_ n2_ hHeld2
            clear hK K
            refine norm_ (a' := ?_) ?_ ?_
            rotate_left
            · show Act.put _ (some 11) _ = _
              simp only [Act.put, List.setIfInBounds_toArray, List.set_cons_zero, List.set_cons_succ, i64_w, i32_w]
              rfl
            exact norm_ (by first | (simp only [putAll, Act.put, List.setIfInBounds_toArray, List.set_cons_zero, List.set_cons_succ]; done) | (simp only [putAll, Act.put, List.setIfInBounds_toArray, List.set_cons_zero, List.set_cons_succ]; rfl)) (hJ (vj, g11) _ ⟨hHeld, HRk.out, BK.out, HX.out, HNE.out, HGE.out, HB.out⟩)
          · skip
            refine box_step ?hg (N := 11) ?hd (cs := #[.int .i64 0, .int .i64 0, .slice none 0 0]) (t := 24) ?hr ?_; (case hd => rfl); (case hg => rfl); (case hr => first | (go_simp; done) | (go_simp; rfl))
            intro g11 hg11 w4 hbox hb
            have HNE := Aside0.mk (show w1.heap.size ≠ g11 by rw [hg11]; exact Nat.ne_of_lt (blk_lt BK.out))
            have HGE := Aside0.mk (show W.heap.size ≤ g11 by rw [hg11]; exact below_size HB.out)
            have n0_ := Aside0.mk (blk_below BK.out hb)
            have n1_ := Aside0.mk (below_step HB.out hb)
            have n2_ := Aside0.mk (HS.out.below hb)
            have HX := Aside0.mk hbox
            refine hK.out _ _ ⟨bc_ hb hHeld.1, bc_ hb hHeld.2.1, bc_ hb hHeld.2.2.1, bc_ hb hHeld.2.2.2.1, bc_ hb hHeld.2.2.2.2.1, bc_ hb hHeld.2.2.2.2.2⟩ (fun hHeld2 => ?_)
            clear BK HB HS hHeld hb hbox hg11
            have BK := n0_
            have HB := n1_
            have HS := n2_
            have hHeld := hHeld2
            clear n0_ n1_ n2_ hHeld2
            clear hK K
            refine norm_ (a' := ?_) ?_ ?_
            rotate_left
            · show Act.put _ (some 11) _ = _
              simp only [Act.put, List.setIfInBounds_toArray, List.set_cons_zero, List.set_cons_succ, i64_w, i32_w]
              rfl
            refine one_ (i := 5) (N := some 41) #[true, true, true, true, true, true, false, false, false, true, false, false] rfl rfl (one_of HT_.out (by kernel_rfl)) (by decide) (fun K hK => ?_)
            refine goes_ Try.func14 (by kernel_rfl) rfl #[.agg #[.int .i64 (chn l0 m).f0, .int .i64 (chn l0 m).f1, .slice Ab (chn l0 m).f2.length cb], .agg #[.int .i64 y.f0, .int .i64 y.f1, .slice A3 y.f2.length c3]] (by rfl) rfl rfl (by (try simp only [List.map_toArray, List.map_cons, List.map_nil]); first | done | rfl) ?_
            with_reducible refine (curve_Join.calls _ _ Ab cb _ _ _ A3 c3 _ _ _ _ _ _ (HS.out.c HB.out) HLb.out (Kd.C_below HCy.out HB.out) HLy.out HJ.out).mono ?_
            rintro e w5 ⟨vj, rfl, ho0, hb⟩
            refine ⟨_, rfl, ?_⟩
            have n0_ := Aside0.mk (blk_below BK.out hb)
            have n1_ := Aside0.mk (below_step HB.out hb)
            have n2_ := Aside0.mk (HS.out.below hb)
            have HRj := Aside0.mk (Kd.R_lower ho0 (below_size HB.out))
            have HX3 := Aside0.mk (blk_below HX.out hb)
            refine hK.out _ _ ⟨bc_ hb hHeld.1, bc_ hb hHeld.2.1, bc_ hb hHeld.2.2.1, bc_ hb hHeld.2.2.2.1, bc_ hb hHeld.2.2.2.2.1, bc_ hb hHeld.2.2.2.2.2⟩ (fun hHeld2 => ?_)
            clear BK HB HS hHeld hb ho0
            have BK := n0_
            have HB := n1_
            have HS := n2_
            have hHeld := hHeld2
            clear n0_ n1_ n2_ hHeld2
            clear hK K
            refine norm_ (a' := ?_) ?_ ?_
            rotate_left
            · show Act.put _ (some 41) _ = _
              simp only [Act.put, List.setIfInBounds_toArray, List.set_cons_zero, List.set_cons_succ, i64_w, i32_w]
              rfl
            refine pure_ (i := 6) (N := some 35) (v := ?_) (a' := ?_) #[true, true, true, true, true, true, true, false, false, true, false, false] rfl rfl (any_of HT_.out (by kernel_rfl)) (fun _ _ _ h => h) (Or.inl ⟨by rfl, ?_⟩) ?_ ?_
            rotate_left
            · intro w'
              go_simp
              with_reducible rfl
            rotate_left
            · simp only [Act.put, List.setIfInBounds_toArray, List.set_cons_zero, List.set_cons_succ, i64_w, i32_w]
              rfl
            refine pure_ (i := 7) (N := some 42) (v := ?_) (a' := ?_) #[true, true, true, true, true, true, true, true, false, true, false, false] rfl rfl (any_of HT_.out (by kernel_rfl)) (fun _ _ _ h => h) (Or.inl ⟨by rfl, ?_⟩) ?_ ?_
            rotate_left
            · intro w'
              go_simp
              with_reducible rfl
            rotate_left
            · simp only [Act.put, List.setIfInBounds_toArray, List.set_cons_zero, List.set_cons_succ, i64_w, i32_w]
              rfl
            refine pure_ (i := 8) (N := some 43) (v := ?_) (a' := ?_) #[true, true, true, true, true, true, true, true, true, true, false, false] rfl rfl (any_of HT_.out (by kernel_rfl)) (fun _ _ _ h => h) (Or.inl ⟨by rfl, ?_⟩) ?_ ?_
            rotate_left
            · intro w'
              go_simp
              with_reducible rfl
            rotate_left
            · simp only [Act.put, List.setIfInBounds_toArray, List.set_cons_zero, List.set_cons_succ, i64_w, i32_w]
              rfl
            exact norm_ (by first | (simp only [putAll, Act.put, List.setIfInBounds_toArray, List.set_cons_zero, List.set_cons_succ]; done) | (simp only [putAll, Act.put, List.setIfInBounds_toArray, List.set_cons_zero, List.set_cons_succ]; rfl)) (hJ (vj, g11) _ ⟨hHeld, HRj.out, BK.out, HX3.out, HNE.out, HGE.out, HB.out⟩)
        · skip
          rintro ⟨vj, g11⟩ w5 ⟨hHeld, hrj, hbk, hbx, hne, hge, hbel⟩
          clear BK HB HS
          have HRJ : Aside0 (Kd.R (Kd.int .i64) 3 w5 W.heap.size (fun _ => True) vj q3) := ⟨hrj⟩
          have HBK : Aside0 (w5.heap[w1.heap.size]? = some (.cells #[.int .i64 (chn l0 m).f0, .int .i64 (chn l0 m).f1, .slice Ab (chn l0 m).f2.length cb] 24 (0, 0))) := ⟨hbk⟩
          have HBX : Aside0 (w5.heap[g11]? = some (.cells #[.int .i64 0, .int .i64 0, .slice none 0 0] 24 (0, 0))) := ⟨hbx⟩
          have HNE : Aside0 (w1.heap.size ≠ g11) := ⟨hne⟩
          have HGE : Aside0 (W.heap.size ≤ g11) := ⟨hge⟩
          have HB : Aside0 (Below W.heap.size W w5) := ⟨hbel⟩
          have HNA := Aside0.mk (show (ad.add (mi * 3)).block ≠ g11 from Nat.ne_of_lt (Nat.lt_of_lt_of_le HAD.out hge))
          clear hrj hbk hbx hne hge hbel
          obtain ⟨Aj, cj, ej⟩ := Kd.R_slice HRJ.out
          subst ej
          refine norm_ (a' := ?_) ?_ ?_
          rotate_left
          · simp only [putAll, Act.put, List.setIfInBounds_toArray, List.set_cons_zero, List.set_cons_succ]
            rfl
          refine one_ (i := 10) (N := none) #[true, true, true, true, true, true, true, true, true, true, true, false] rfl rfl (one_of HT_.out (by kernel_rfl)) (by decide) (fun K hK => ?_)
          have hs0 : w5.cell? ⟨g11, 0, none⟩ = some (.int .i64 0) := (blk_cell HBX.out 0).trans rfl
          have hf0 := blk_frozen HBX.out 0
          have hs1 : w5.cell? ⟨g11, 1, none⟩ = some (.int .i64 0) := (blk_cell HBX.out 1).trans rfl
          have hf1 := blk_frozen HBX.out 1
          have hs2 : w5.cell? ⟨g11, 2, none⟩ = some (.slice none 0 0) := (blk_cell HBX.out 2).trans rfl
          have hf2 := blk_frozen HBX.out 2
          refine skip_ (w1 := ?_) (by rfl) rfl ?_ ?_
          rotate_left
          · go_simp
            rfl
          refine hK.out _ _ ⟨(cell_far (p := ⟨g11, _, none⟩) HNE.out _).trans ((cell_far (p := ⟨g11, _, none⟩) HNE.out _).trans ((cell_far (p := ⟨g11, _, none⟩) HNE.out _).trans hHeld.1)), (cell_far (p := ⟨g11, _, none⟩) HNE.out _).trans ((cell_far (p := ⟨g11, _, none⟩) HNE.out _).trans ((cell_far (p := ⟨g11, _, none⟩) HNE.out _).trans hHeld.2.1)), (cell_far (p := ⟨g11, _, none⟩) HNE.out _).trans ((cell_far (p := ⟨g11, _, none⟩) HNE.out _).trans ((cell_far (p := ⟨g11, _, none⟩) HNE.out _).trans hHeld.2.2.1)), (cell_far (p := ⟨g11, _, none⟩) HNA.out _).trans ((cell_far (p := ⟨g11, _, none⟩) HNA.out _).trans ((cell_far (p := ⟨g11, _, none⟩) HNA.out _).trans hHeld.2.2.2.1)), (cell_far (p := ⟨g11, _, none⟩) (a := ⟨(ad.add (mi * 3)).block, (ad.add (mi * 3)).off + 1, none⟩) HNA.out _).trans ((cell_far (p := ⟨g11, _, none⟩) (a := ⟨(ad.add (mi * 3)).block, (ad.add (mi * 3)).off + 1, none⟩) HNA.out _).trans ((cell_far (p := ⟨g11, _, none⟩) (a := ⟨(ad.add (mi * 3)).block, (ad.add (mi * 3)).off + 1, none⟩) HNA.out _).trans hHeld.2.2.2.2.1)), (cell_far (p := ⟨g11, _, none⟩) (a := ⟨(ad.add (mi * 3)).block, (ad.add (mi * 3)).off + 2, none⟩) HNA.out _).trans ((cell_far (p := ⟨g11, _, none⟩) (a := ⟨(ad.add (mi * 3)).block, (ad.add (mi * 3)).off + 2, none⟩) HNA.out _).trans ((cell_far (p := ⟨g11, _, none⟩) (a := ⟨(ad.add (mi * 3)).block, (ad.add (mi * 3)).off + 2, none⟩) HNA.out _).trans hHeld.2.2.2.2.2))⟩ (fun hHeld2 => ?_)
          clear hK K hs0 hf0 hs1 hf1 hs2 hf2
          have n0_ := Aside0.mk (show (((w5.setCell ⟨g11, 0, none⟩ (.int .i64 q1)).setCell ⟨g11, 1, none⟩ (.int .i64 q2)).setCell ⟨g11, 2, none⟩ (.slice Aj q3.length cj)).heap[w1.heap.size]? = some (.cells #[.int .i64 (chn l0 m).f0, .int .i64 (chn l0 m).f1, .slice Ab (chn l0 m).f2.length cb] 24 (0, 0)) from blk_far (p := ⟨g11, 2, none⟩) (blk_far (p := ⟨g11, 1, none⟩) (blk_far (p := ⟨g11, 0, none⟩) HBK.out HNE.out _) HNE.out _) HNE.out _)
          have n1_ := Aside0.mk (show (((w5.setCell ⟨g11, 0, none⟩ (.int .i64 q1)).setCell ⟨g11, 1, none⟩ (.int .i64 q2)).setCell ⟨g11, 2, none⟩ (.slice Aj q3.length cj)).heap[g11]? = some (.cells #[.int .i64 q1, .int .i64 q2, .slice Aj q3.length cj] 24 (0, 0)) from blk_put (blk_put (blk_put HBX.out 0 _ rfl) 1 _ rfl) 2 _ rfl)
          have n2_ := Aside0.mk (show Below W.heap.size W (((w5.setCell ⟨g11, 0, none⟩ (.int .i64 q1)).setCell ⟨g11, 1, none⟩ (.int .i64 q2)).setCell ⟨g11, 2, none⟩ (.slice Aj q3.length cj)) from below_set (below_set (below_set HB.out HGE.out) HGE.out) HGE.out)
          have n3_ := Aside0.mk (show Kd.R (Kd.int .i64) 3 (((w5.setCell ⟨g11, 0, none⟩ (.int .i64 q1)).setCell ⟨g11, 1, none⟩ (.int .i64 q2)).setCell ⟨g11, 2, none⟩ (.slice Aj q3.length cj)) W.heap.size (fun _ => True) (.slice Aj q3.length cj) q3 from Kd.R_mono (Kd.R_far (p := ⟨g11, 2, none⟩) (Kd.R_far (p := ⟨g11, 1, none⟩) (Kd.R_far (p := ⟨g11, 0, none⟩) (Kd.R_types HRJ.out HBX.out (by decide)) (fun _ hk => hk.2) _) (fun _ hk => hk.2) _) (fun _ hk => hk.2) _) (fun _ _ => trivial))
          clear HRJ HBK HBX HB hHeld
          generalize (((w5.setCell ⟨g11, 0, none⟩ (.int .i64 q1)).setCell ⟨g11, 1, none⟩ (.int .i64 q2)).setCell ⟨g11, 2, none⟩ (.slice Aj q3.length cj)) = w6 at n0_ n1_ n2_ n3_ hHeld2 ⊢
          have HBK := n0_
          have HBX := n1_
          have HB := n2_
          have HRJ := n3_
          clear n0_ n1_ n2_ n3_ hHeld2
          refine pure_ (i := 11) (N := some 12) (v := ?_) (a' := ?_) #[true, true, true, true, true, true, true, true, true, true, true, true] rfl rfl (any_of HT_.out (by kernel_rfl)) (fun _ _ _ h => h) (Or.inl ⟨by rfl, ?_⟩) ?_ ?_
          rotate_left
          · intro w'
            go_simp
            with_reducible rfl
          rotate_left
          · simp only [Act.put, List.setIfInBounds_toArray, List.set_cons_zero, List.set_cons_succ, i64_w, i32_w]
            rfl
          refine done_ (done_of HT_.out (by kernel_rfl)) ?_
          clear HT_ HW_
          by_cases vj : Vc (chn l0 mi)
          · have e := HJ2.out
            rw [if_pos vj] at e
            simp only [Prod.mk.injEq] at e
            obtain ⟨rfl, rfl, rfl, rfl⟩ := e
            have hs0 : w6.cell? ⟨w1.heap.size, 0, none⟩ = some (.int .i64 (chn l0 m).f0) := (blk_cell HBK.out 0).trans rfl
            have hf0 := blk_frozen HBK.out 0
            have hs1 : w6.cell? ⟨w1.heap.size, 1, none⟩ = some (.int .i64 (chn l0 m).f1) := (blk_cell HBK.out 1).trans rfl
            have hf1 := blk_frozen HBK.out 1
            have hs2 : w6.cell? ⟨w1.heap.size, 2, none⟩ = some (.slice Ab (chn l0 m).f2.length cb) := (blk_cell HBK.out 2).trans rfl
            have hf2 := blk_frozen HBK.out 2
            have hx0 : w6.cell? ⟨g11, 0, none⟩ = some (.int .i64 (chn l0 mi).f0) := (blk_cell HBX.out 0).trans rfl
            have hx1 : w6.cell? ⟨g11, 1, none⟩ = some (.int .i64 (chn l0 mi).f1) := (blk_cell HBX.out 1).trans rfl
            have hx2 : w6.cell? ⟨g11, 2, none⟩ = some (.slice Aj (chn l0 mi).f2.length cj) := (blk_cell HBX.out 2).trans rfl
            go_wp2
            go_roundg (l0.length - (mi + 1))
            case measure => omega
            case rel => exact ⟨mi, .slice Aj (chn l0 mi).f2.length cj, by omega, by omega, by go_num, ⟨blk_put (blk_put (blk_put HBK.out 0 _ rfl) 1 _ rfl) 2 _ rfl⟩, ⟨.inr (Kd.R_mono (Kd.R_far (p := ⟨w1.heap.size, 2, none⟩) (Kd.R_far (p := ⟨w1.heap.size, 1, none⟩) (Kd.R_far (p := ⟨w1.heap.size, 0, none⟩) (Kd.R_types HRJ.out HBK.out (by decide)) (fun _ hk => hk.2) _) (fun _ hk => hk.2) _) (fun _ hk => hk.2) _) (fun _ _ => trivial))⟩, ⟨vj⟩, ⟨below_set (below_set (below_set HB.out HW1.out) HW1.out) HW1.out⟩⟩
          · have e := HJ2.out
            rw [if_neg vj] at e
            simp only [Prod.mk.injEq] at e
            obtain ⟨rfl, rfl, rfl, rfl⟩ := e
            go_wp2_with (go_at_call 17; (with_reducible refine (kimberlitelaw03_alive.calls true _ rfl).mono ?_); rintro e w7 ⟨rfl, hb⟩; have HB7 := Aside0.mk (below_step HB.out hb); clear hb)
            go_ret
            exact ⟨rfl, HB7.out⟩
      · have hmk : m = k := by have := HK1.out; omega
        subst hmk
        obtain ⟨Ab, cb, evb, hlb, hcb⟩ := HS.out.reads HB.out
        subst evb
        have z0 : wr.cell? ⟨w1.heap.size, 0, none⟩ = some (.int .i64 (chn l0 m).f0) := (blk_cell BK.out 0).trans rfl
        have z1 : wr.cell? ⟨w1.heap.size, 1, none⟩ = some (.int .i64 (chn l0 m).f1) := (blk_cell BK.out 1).trans rfl
        have z2 : wr.cell? ⟨w1.heap.size, 2, none⟩ = some (.slice Ab (chn l0 m).f2.length cb) := (blk_cell BK.out 2).trans rfl
        have HLb := Aside0.mk hlb
        have HCb := Aside0.mk hcb
        have HAT := Aside0.mk (show kimberlitelaw03_at.f (chn l0 m).f0 (chn l0 m).f1 (chn l0 m).f2 a1 = some (r2, true) by rw [at_law, atR_in HVc.out HIN.out, HVAL.out])
        have hltz : ¬ (mi : Int) < (l0.length : Int) := by omega
        clear hlb hcb
        go_wp2_with (first | (go_at_call 18; (with_reducible refine (kimberlitelaw03_at.calls _ _ Ab cb _ _ _ _ _ HCb.out HLb.out HAT.out).mono ?_); rintro e w4 ⟨rfl, hb⟩; have HB4 := Aside0.mk (below_step HB.out hb); clear hb) | (go_at_call 17; (with_reducible refine (kimberlitelaw03_alive.calls true _ rfl).mono ?_); rintro e w5 ⟨rfl, hb⟩; have HB5 := Aside0.mk (below_step HB4.out hb); clear hb))
        go_ret
        exact ⟨rfl, HB5.out⟩
  · have h4b : (r4 != 0) = true := bne_iff_ne.mpr h4
    have h4c : (r4 == 0) = false := beq_eq_false_iff_ne.mpr h4
    go_wp2_with (go_at_call 17; (with_reducible refine (kimberlitelaw03_alive.calls true _ rfl).mono ?_); rintro e w2 ⟨rfl, hb⟩; have HB2 := Aside0.mk (below_then HB.out HB.out.size hb); clear hb)
    go_ret
    exact ⟨rfl, HB2.out⟩
end Go.Proofs.Ytingjpcgehgiiaa.Pr
end
section
namespace Go.Proofs.Ytingjpcgehgiiaa.curveChain
open Go.ChangeShapes Go.WideShapes Go.ChangeAt Go.RowKit Go.Proofs.Ytingjpcgehgiiaa.Pr
set_option linter.unusedVariables false
theorem own : ownKnob Try.prog.godebug = none := by kernel_rfl
theorem laidOut : laidOutB Try.prog = true := by kernel_rfl
set_option maxRecDepth 100000 in
theorem lifted (os : Os) (started : os.Started) (H : Type) (enc : TypeId × Value → H) :
    ReturnsInHanded {} Try.checked os 5 .any (Rows.curveChainSpec.pre6 enc Try.prog Try.f5 Rows.curveChainRow.domain false) (Rows.curveChainSpec.post enc Try.prog Try.f5 false true false false) := by
  refine returnsInHanded_of_change (C := Try.checked) own started (by kernel_rfl) Try.func5
    (ChangeSpec.witness6 (enc := enc) (C := Try.checked) false ⟨#[], #[.slice none 0 0, .int .i64 0], []⟩ 8 (by kernel_rfl) (by kernel_rfl) (by kernel_rfl) (by kernel_rfl)) ?_
  intro W base args ds gs before hval0 hW hcnd _
  have hval : ∀ (j : Nat) t v, Try.f5.params[j]? = some t → args[j]? = some v → Value.okWide Try.prog W .any base t v := hval0
  have hW' := hW
  obtain ⟨p, q, hA0, hV, rfl, hfz, hnd⟩ := hW
  have hA : DataW.TrodAll enc Try.prog W 0 (fun _ => true) true Try.f5.params.toList args.toList ds p := hA0
  rw [Try.params5] at hA hval
  obtain ⟨v0, vs0, d0, ds0, p0, q0, hargs, rfl, rfl, h0, r0⟩ := trodAll_cons hA
  obtain ⟨v1, vs1, d1, ds1, p1, q1, rfl, rfl, rfl, h1, r1⟩ := trodAll_cons r0
  obtain ⟨rfl, rfl, rfl⟩ := trodAll_nil r1
  obtain rfl : args = #[v0, v1] := by cases args; simp_all
  obtain ⟨rfl, rfl⟩ := trodVars_none hV
  have k0 := h0
  have lt0 : ∀ x ∈ p0, x.block < W.heap.size := by obtain ⟨m, hm⟩ := k0; exact DataW.trod_lt m _ _ _ hm
  obtain ⟨a0, len0, cap0, rfl⟩ := okWide_slice Try.underlying34 (hval 0 34 v0 rfl rfl)
  obtain ⟨l0, rfl, c0, hr0, w0⟩ := open_curves h0
  obtain ⟨a1, rfl, rfl, rfl, w1⟩ := open_int Try.underlying3 (hval 1 3 v1 rfl rfl) h1
  clear hA0 hval0
  try simp only [List.append_nil] at hW'
  refine (CurveChain_walk a0 cap0 l0 c0 hr0 w0 a1 w1).mono fun e W' ⟨he, bel⟩ => ?_
  subst he
  exact ⟨_, rfl, _, _, _, [], _, [], hW', trodAll_mk1 (shut_bool Try.underlying4 _), (trodAll_cons_mk (Below.trod laidOut (by kernel_rfl) (of_decide_eq_true (by kernel_rfl)) k0 bel lt0) (trodAll_cons_mk (shut_int Try.underlying3 w1) trodAll_mk0)), rfl, bel.frame _, fun h => by cases h⟩
theorem over : Rows.curveChainRow.holds Try.pinned (OpenSpec.ofChange Rows.curveChainSpec) :=
  OpenClaim.holds_of_wide 5 Try.f5 rfl rfl rfl rfl rfl rfl rfl ⟨rfl, rfl, rfl, rfl, rfl⟩ rfl rfl rfl rfl rfl (by kernel_rfl) Try.func5 (by kernel_rfl)
    (of_decide_eq_true (by kernel_rfl)) (by unfold Func.isWrapper; first | (rw [if_pos (by decide +kernel)]; kernel_rfl) | (rw [if_neg (by decide +kernel)]; exact ⟨rfl, rfl⟩))
    (fun os started H enc _ => lifted os started H enc)
theorem proved : Rows.CurveChainSaid := over
end Go.Proofs.Ytingjpcgehgiiaa.curveChain
namespace Go.Proofs.Ytingjpcgehgiiaa
/-- The row, under a short name, for the claim. -/
theorem curveChain_holds : Rows.CurveChainSaid := curveChain.proved
end Go.Proofs.Ytingjpcgehgiiaa
end
