/- What the proof of the law needs, trimmed and merged by wip/pack.py out of the texts YtingjpcgehgiiaaWalkCurveDual, YtingjpcgehgiiaaRowCurveDual. No condition. -/
import Derived.Test.YtingjpcgehgiiaaRows
import Derived.WalkKit
import Derived.ProofKit
import Derived.OpenShut
import Derived.ShutString
import Derived.ChangeOld
import Derived.Below
import Derived.SizedLaws
import Derived.Test.YtingjpcgehgiiaaKCurveDual0
import Derived.Test.YtingjpcgehgiiaaKCurveDual1
import Derived.Test.YtingjpcgehgiiaaKCurveDual2
import Derived.Test.YtingjpcgehgiiaaKCurveDual3
import Derived.Test.YtingjpcgehgiiaaKCurveDual4
import Derived.Test.YtingjpcgehgiiaaKCurveDual5
section
namespace Go.Proofs.Ytingjpcgehgiiaa.Pr
open Go.RowKit Go.Proofs.YtingjpcgehgiiaaW.PrintWords Go.Proofs.YtingjpcgehgiiaaW.PrintLast Go.Proofs.YtingjpcgehgiiaaW.PrintMore
set_option linter.unusedVariables false
set_option linter.unusedSimpArgs false
def conN (lo hi : Int) : Nat := (hi - lo).toNat
theorem conR_cases (c : S24) (lo hi : Int) : (conOk c lo hi ∧ Vc (conC c lo (conN lo hi)) ∧ conR c lo hi = ((conC c lo (conN lo hi)).f0, (conC c lo (conN lo hi)).f1, (conC c lo (conN lo hi)).f2, 0)) ∨ (conR c lo hi).2.2.2 ≠ 0 := by
  unfold conR
  by_cases h : conOk c lo hi
  · rw [if_pos h]
    by_cases hv : Vc (conC c lo (hi - lo).toNat)
    · rw [if_pos hv]
      exact .inl ⟨h, hv, rfl⟩
    · rw [if_neg hv]
      exact .inr (by simp)
  · rw [if_neg h]
    exact .inr (by simp)
theorem sub_all (c : S24) (lo : Int) (n : Nat) : sub (conC c lo n) lo (lo + (n : Int)) = (conC c lo n).f2 := by
  unfold sub
  have e0 : (conC c lo n).f0 = lo := rfl
  have hl := conC_len c lo n
  rw [e0]
  have e1 : (lo + (n : Int) - lo).toNat = n := by omega
  have e2 : (lo - lo).toNat = 0 := by omega
  rw [e1, e2, List.take_of_length_le (by omega), List.drop_zero]
theorem con_zip (a b : S24) (lo : Int) (n : Nat) : List.zipWith (fun x y => x + y) (conC a lo n).f2 (conC b lo n).f2 = (conC (joinC a b) lo n).f2 := by
  apply List.ext_getElem?
  intro j
  by_cases hj : j < n
  · have g1 := conC_len a lo n
    have g2 := conC_len b lo n
    have g3 := conC_len (joinC a b) lo n
    have r : ∀ c : S24, (conC c lo n).f2[j]? = some (gC c (lo + ((j + 1 : Nat) : Int)) - gC c (lo + (j : Int))) := fun c => by
      have gc := conC_len c lo n
      rw [List.getElem?_eq_getElem (by omega), ← rd_nat _ _ (by omega)]
      have hh : rd (conC c lo n).f2 (j : Int) = rd (conV c lo (n + 1)) ((j + 1 : Nat) : Int) - rd (conV c lo (n + 1)) (j : Int) := by
        unfold conC difL
        rw [rd_nat _ _ (by rw [List.length_map, List.length_range]; exact hj), List.getElem_map, List.getElem_range]
      rw [hh, conV_rd _ _ _ _ (by omega), conV_rd _ _ _ _ (by omega)]
    rw [List.getElem?_zipWith, r a, r b, r (joinC a b)]
    simp only
    rw [gC_join, gC_join]
    congr 1
    omega
  · rw [List.getElem?_eq_none (by rw [List.length_zipWith, conC_len, conC_len]; omega), List.getElem?_eq_none (by rw [conC_len]; omega)]
theorem con_add (a b : S24) (lo : Int) (n : Nat) : addC (conC a lo n) (conC b lo n) lo (lo + (n : Int)) = conC (joinC a b) lo n := by
  unfold addC
  rw [sub_all, sub_all, con_zip]
  have v1 := conC_val a lo n 0 (by omega)
  have v2 := conC_val b lo n 0 (by omega)
  rw [show lo + ((0 : Nat) : Int) = lo by omega] at v1 v2
  rw [v1, v2, ← gC_join]
  rfl
theorem con_addR {a b : S24} {lo : Int} {n : Nat} (ha : Vc (conC a lo n)) (hb : Vc (conC b lo n)) (hj : Vc (conC (joinC a b) lo n)) :
    addR (conC a lo n) (conC b lo n) = ((conC (joinC a b) lo n).f0, (conC (joinC a b) lo n).f1, (conC (joinC a b) lo n).f2, 0) := by
  unfold addR
  have e : (validC (conC a lo n).f0 (conC a lo n).f1 (conC a lo n).f2 && validC (conC b lo n).f0 (conC b lo n).f1 (conC b lo n).f2) = true := by rw [Bool.and_eq_true]; exact ⟨ha, hb⟩
  rw [if_pos e]
  unfold addOk
  have t1 : toC (conC a lo n) = lo + (n : Int) := by unfold toC; rw [conC_len]; rfl
  have t2 : toC (conC b lo n) = lo + (n : Int) := by unfold toC; rw [conC_len]; rfl
  have f1 : (conC a lo n).f0 = lo := rfl
  have f2 : (conC b lo n).f0 = lo := rfl
  have m1 : mn (lo + (n : Int)) (lo + (n : Int)) = lo + (n : Int) := by rw [mn_eq]; omega
  have m2 : mx lo lo = lo := by rw [mx_eq]; omega
  rw [t1, t2, f1, f2, m1, m2, if_neg (by omega), con_add, if_pos hj]
theorem CurveDual_pure (a b : S24) (lo hi : Int) : ∃ k, kimberlitelaw03_CurveDual.f k a.f0 a.f1 a.f2 b.f0 b.f1 b.f2 lo hi = some true := by
  refine Ev.rounds ?_
  unfold kimberlitelaw03_CurveDual.f curve_Join.f
  refine Ev.congr (fun k => Option.bind_some _ _) ?_
  by_cases h : Vc a ∧ Vc b
  · rw [joinR_eq h.1 h.2]
    by_cases hj : Vc (joinC a b)
    · rw [if_pos hj]
      refine Ev.congr (fun k => if_pos rfl) ?_
      refine Ev.bind (Conj_ev (joinC a b) lo hi) (Ev.bind (Conj_ev a lo hi) (Ev.bind (Conj_ev b lo hi) ?_))
      have skip : ∀ x1 x2 x3 y1 y2 y3 z1 z2 z3, Ev (fun k => kimberlitelaw03_CurveDual.j0 k true x1 x2 x3 y1 y2 y3 z1 z2 z3) true := fun x1 x2 x3 y1 y2 y3 z1 z2 z3 =>
        Ev.step (f := fun _ => some true) (fun k => by simp only [kimberlitelaw03_CurveDual.j0]; rw [if_pos trivial]; rfl) (Ev.now _)
      rcases conR_cases (joinC a b) lo hi with ⟨o1, v1, e1⟩ | hn
      · rcases conR_cases a lo hi with ⟨o2, v2, e2⟩ | hn
        · rw [e1, e2]
          refine Ev.congr (fun k => if_pos rfl) (Ev.congr (fun k => if_pos rfl) ?_)
          rcases conR_cases b lo hi with ⟨o3, v3, e3⟩ | hn
          · rw [e3]
            simp only
            refine Ev.step (f := fun k => (some (addR (conC a lo (conN lo hi)) (conC b lo (conN lo hi)))).bind fun bt752 => (if bt752.2.2.2 = 0 then ((kimberlitelaw03_alike.f k bt752.1 bt752.2.1 bt752.2.2.1 (conC (joinC a b) lo (conN lo hi)).f0 (conC (joinC a b) lo (conN lo hi)).f1 (conC (joinC a b) lo (conN lo hi)).f2).bind fun t760 => (if t760 = true then ((kimberlitelaw03_alive.f).bind fun t761 => (some t761)) else (some false))) else (if bt752.2.2.2 = 4 then ((kimberlitelaw03_alive.f).bind fun t759 => (some t759)) else (some false)))) (fun k => ?_) ?_
            · simp only [kimberlitelaw03_CurveDual.j0]
              rw [if_neg (by simp)]
              rfl
            · rw [con_addR v2 v3 v1]
              refine Ev.congr (fun k => Option.bind_some _ _) (Ev.congr (fun k => if_pos rfl) (Ev.bind (alike_ev _ _ _ ?_) (Ev.congr (f := fun _ => some true) (fun k => if_pos rfl) (Ev.now _))))
              exact Nat.le_trans (vc_parts v1).2.2.2.2.1 (by decide)
          · rw [show ((conR b lo hi).2.2.2 != 0) = true by rw [bne_iff_ne]; exact hn]
            exact skip _ _ _ _ _ _ _ _ _
        · rw [e1]
          refine Ev.congr (fun k => if_pos rfl) (Ev.congr (fun k => if_neg hn) (skip _ _ _ _ _ _ _ _ _))
      · exact Ev.congr (fun k => if_neg hn) (skip _ _ _ _ _ _ _ _ _)
    · rw [if_neg hj]
      exact Ev.congr (f := fun _ => some true) (fun k => if_neg (by simp)) (Ev.now _)
  · rw [joinR_arg h]
    exact Ev.congr (f := fun _ => some true) (fun k => if_neg (by simp)) (Ev.now _)
theorem CurveDual_walk {W : World} (x0 : S24) (a0 : Option Addr) (cap0 : Nat) (c0 : x0.f2.length ≤ cap0) (hr0 : Kd.C (Kd.int .i64) W a0 x0.f2.length x0.f2) (w0 : okC x0) (x1 : S24) (a1 : Option Addr) (cap1 : Nat) (c1 : x1.f2.length ≤ cap1) (hr1 : Kd.C (Kd.int .i64) W a1 x1.f2.length x1.f2) (w1 : okC x1) (a2 : Int) (b2 : (Lit.int .i64 a2).wf = true) (a3 : Int) (b3 : (Lit.int .i64 a3).wf = true) :
    Calls Try.prog 12 #[.agg #[.int .i64 x0.f0, .int .i64 x0.f1, .slice a0 x0.f2.length cap0], .agg #[.int .i64 x1.f0, .int .i64 x1.f1, .slice a1 x1.f2.length cap1], .int .i64 a2, .int .i64 a3] W fun e w' => e = .returned (.bool true) ∧ Below W.heap.size W w' := by
  obtain ⟨k, h⟩ := CurveDual_pure x0 x1 a2 a3
  exact kimberlitelaw03_CurveDual.calls k _ _ _ _ x0.f2 _ _ _ _ x1.f2 a2 a3 true W hr0 c0 hr1 c1 h
end Go.Proofs.Ytingjpcgehgiiaa.Pr
end
section
namespace Go.Proofs.Ytingjpcgehgiiaa.curveDual
open Go.ChangeShapes Go.WideShapes Go.ChangeAt Go.RowKit Go.Proofs.Ytingjpcgehgiiaa.Pr
set_option linter.unusedVariables false
theorem own : ownKnob Try.prog.godebug = none := by kernel_rfl
theorem laidOut : laidOutB Try.prog = true := by kernel_rfl
set_option maxRecDepth 100000 in
theorem lifted (os : Os) (started : os.Started) (H : Type) (enc : TypeId × Value → H) :
    ReturnsInHanded {} Try.checked os 12 .any (Rows.curveDualSpec.pre6 enc Try.prog Try.f12 Rows.curveDualRow.domain false) (Rows.curveDualSpec.post enc Try.prog Try.f12 false true false false) := by
  refine returnsInHanded_of_change (C := Try.checked) own started (by kernel_rfl) Try.func12
    (ChangeSpec.witness6 (enc := enc) (C := Try.checked) false ⟨#[], #[.agg #[.int .i64 0, .int .i64 0, .slice none 0 0], .agg #[.int .i64 0, .int .i64 0, .slice none 0 0], .int .i64 0, .int .i64 0], []⟩ 8 (by kernel_rfl) (by kernel_rfl) (by kernel_rfl) (by kernel_rfl)) ?_
  intro W base args ds gs before hval0 hW hcnd _
  have hval : ∀ (j : Nat) t v, Try.f12.params[j]? = some t → args[j]? = some v → Value.okWide Try.prog W .any base t v := hval0
  have hW' := hW
  obtain ⟨p, q, hA0, hV, rfl, hfz, hnd⟩ := hW
  have hA : DataW.TrodAll enc Try.prog W 0 (fun _ => true) true Try.f12.params.toList args.toList ds p := hA0
  rw [Try.params12] at hA hval
  obtain ⟨v0, vs0, d0, ds0, p0, q0, hargs, rfl, rfl, h0, r0⟩ := trodAll_cons hA
  obtain ⟨v1, vs1, d1, ds1, p1, q1, rfl, rfl, rfl, h1, r1⟩ := trodAll_cons r0
  obtain ⟨v2, vs2, d2, ds2, p2, q2, rfl, rfl, rfl, h2, r2⟩ := trodAll_cons r1
  obtain ⟨v3, vs3, d3, ds3, p3, q3, rfl, rfl, rfl, h3, r3⟩ := trodAll_cons r2
  obtain ⟨rfl, rfl, rfl⟩ := trodAll_nil r3
  obtain rfl : args = #[v0, v1, v2, v3] := by cases args; simp_all
  obtain ⟨rfl, rfl⟩ := trodVars_none hV
  have k0 := h0
  have lt0 : ∀ x ∈ p0, x.block < W.heap.size := by obtain ⟨m, hm⟩ := k0; exact DataW.trod_lt m _ _ _ hm
  obtain ⟨x0, a0, cap0, rfl, c0, hr0, w0⟩ := open_curve (hval 0 24 v0 rfl rfl) h0
  have k1 := h1
  have lt1 : ∀ x ∈ p1, x.block < W.heap.size := by obtain ⟨m, hm⟩ := k1; exact DataW.trod_lt m _ _ _ hm
  obtain ⟨x1, a1, cap1, rfl, c1, hr1, w1⟩ := open_curve (hval 1 24 v1 rfl rfl) h1
  obtain ⟨a2, rfl, rfl, rfl, w2⟩ := open_int Try.underlying3 (hval 2 3 v2 rfl rfl) h2
  obtain ⟨a3, rfl, rfl, rfl, w3⟩ := open_int Try.underlying3 (hval 3 3 v3 rfl rfl) h3
  clear hA0 hval0
  try simp only [List.append_nil] at hW'
  refine (CurveDual_walk x0 a0 cap0 c0 hr0 w0 x1 a1 cap1 c1 hr1 w1 a2 w2 a3 w3).mono fun e W' ⟨he, bel⟩ => ?_
  subst he
  exact ⟨_, rfl, _, _, _, [], _, [], hW', trodAll_mk1 (shut_bool Try.underlying4 _), (trodAll_cons_mk (Below.trod laidOut (by kernel_rfl) (of_decide_eq_true (by kernel_rfl)) k0 bel lt0) (trodAll_cons_mk (Below.trod laidOut (by kernel_rfl) (of_decide_eq_true (by kernel_rfl)) k1 bel lt1) (trodAll_cons_mk (shut_int Try.underlying3 w2) (trodAll_cons_mk (shut_int Try.underlying3 w3) trodAll_mk0)))), rfl, bel.frame _, fun h => by cases h⟩
theorem over : Rows.curveDualRow.holds Try.pinned (OpenSpec.ofChange Rows.curveDualSpec) :=
  OpenClaim.holds_of_wide 12 Try.f12 rfl rfl rfl rfl rfl rfl rfl ⟨rfl, rfl, rfl, rfl, rfl⟩ rfl rfl rfl rfl rfl (by kernel_rfl) Try.func12 (by kernel_rfl)
    (of_decide_eq_true (by kernel_rfl)) (by unfold Func.isWrapper; first | (rw [if_pos (by decide +kernel)]; kernel_rfl) | (rw [if_neg (by decide +kernel)]; exact ⟨rfl, rfl⟩))
    (fun os started H enc _ => lifted os started H enc)
theorem proved : Rows.CurveDualSaid := over
end Go.Proofs.Ytingjpcgehgiiaa.curveDual
namespace Go.Proofs.Ytingjpcgehgiiaa
/-- The row, under a short name, for the claim. -/
theorem curveDual_holds : Rows.CurveDualSaid := curveDual.proved
end Go.Proofs.Ytingjpcgehgiiaa
end
