/- What the proof of the law needs, trimmed and merged by wip/pack.py out of the texts YtingjpcgehgiiaaWalkCurveJoins, YtingjpcgehgiiaaRowCurveJoins. No condition. -/
import Derived.Test.YtingjpcgehgiiaaRows
import Derived.WalkKit
import Derived.ProofKit
import Derived.OpenShut
import Derived.ShutString
import Derived.ChangeOld
import Derived.Below
import Derived.SizedLaws
import Derived.Test.YtingjpcgehgiiaaKCurveJoins0
import Derived.Test.YtingjpcgehgiiaaKCurveJoins1
import Derived.Test.YtingjpcgehgiiaaKCurveJoins2
import Derived.Test.YtingjpcgehgiiaaKCurveJoins3
section
namespace Go.Proofs.Ytingjpcgehgiiaa.Pr
open Go.RowKit Go.Proofs.YtingjpcgehgiiaaW.PrintWords Go.Proofs.YtingjpcgehgiiaaW.PrintLast Go.Proofs.YtingjpcgehgiiaaW.PrintMore
set_option linter.unusedVariables false
set_option linter.unusedSimpArgs false
theorem vc_len {c : S24} (h : Vc c) : c.f2.length ≤ 64 := (vc_parts h).2.2.2.2.1
theorem joinR_len (a b : S24) : (joinR a.f0 a.f1 a.f2 b.f0 b.f1 b.f2).2.2.1.length ≤ 64 := by
  by_cases h : Vc a ∧ Vc b
  · rw [joinR_eq h.1 h.2]
    by_cases hj : Vc (joinC a b)
    · rw [if_pos hj]; exact vc_len hj
    · rw [if_neg hj]; simp
  · rw [joinR_arg h]; simp
theorem joinR_comm (a b : S24) : joinR b.f0 b.f1 b.f2 a.f0 a.f1 a.f2 = joinR a.f0 a.f1 a.f2 b.f0 b.f1 b.f2 := by
  by_cases h : Vc a ∧ Vc b
  · rw [joinR_eq h.1 h.2, joinR_eq h.2 h.1, joinC_comm]
  · rw [joinR_arg h, joinR_arg (fun e => h ⟨e.2, e.1⟩)]
theorem in_at {a : S24} {i : Nat} (hi : i ≤ a.f2.length) : inC a (a.f0 + (i : Int)) := ⟨by omega, by omega⟩
theorem at_w {a : S24} (va : Vc a) {i : Nat} (hi : i ≤ a.f2.length) : wrap64 (a.f0 + (i : Int)) = a.f0 + (i : Int) ∧ wrap64 ((i : Int) + 1) = ((i + 1 : Nat) : Int) ∧ (i : Int) ≤ (a.f2.length : Int) := by
  obtain ⟨h1, h2, h3, h4, h5, _, h7⟩ := vc_parts va
  unfold wrap64
  omega
/-- The loop of the law. -/
def jl (a b j : S24) (x y : Int) (k : Nat) (met : Bool) (i : Int) : Option Bool := kimberlitelaw03_CurveJoins.l0 k x y (valC a x) (valC b y) (valC j (x + y)) true met i a.f0 a.f1 a.f2 b.f0 b.f1 b.f2 j.f0 j.f1 j.f2
theorem jl_end (a b j : S24) (x y : Int) (k : Nat) (vj : Vc j) (hw : valC j (x + y) ≤ wrap64 (valC a x + valC b y)) {i : Int} (hi : (a.f2.length : Int) < i) : jl a b j x y (k + 1) true i = some true := by
  unfold jl
  simp only [kimberlitelaw03_CurveJoins.l0]
  rw [if_neg (by omega), valid_f j, Option.bind_some, if_pos (decide_eq_true vj), if_pos trivial, if_pos hw, if_pos trivial]
  rfl
theorem jl_hit (a b j : S24) (x y : Int) (k : Nat) (met : Bool) (va : Vc a) (vb : Vc b) {i : Nat} (hi : i ≤ a.f2.length) {z : Int} (ez : wrap64 (wrap64 (wrap64 (x + y) - a.f0) - (i : Int)) = z) (hz : inC b z) {s : Int} (es : wrap64 (valC a (a.f0 + (i : Int)) + valC b z) = s) (hs : ¬s < valC j (x + y)) :
    jl a b j x y (k + 2) met (i : Int) = jl a b j x y k (met || s == valC j (x + y)) ((i + 1 : Nat) : Int) := by
  obtain ⟨e1, e2, e0⟩ := at_w va hi
  have ia := in_at (a := a) hi
  unfold jl
  simp only [kimberlitelaw03_CurveJoins.l0]
  rw [if_pos e0, e1, at_law a, Option.bind_some, ez, at_law b, Option.bind_some, atR_in va ia, atR_in vb hz]
  simp only
  rw [if_pos trivial, if_pos trivial, es, decide_eq_false hs]
  simp only [kimberlitelaw03_CurveJoins.j4]
  rw [if_neg (by simp), e2, es]
  cases met
  · rw [if_neg (by simp), if_pos trivial, if_pos trivial, Bool.false_or]
  · rw [if_pos rfl, Bool.true_or]
theorem jl_miss (a b j : S24) (x y : Int) (k : Nat) (met : Bool) (va : Vc a) {i : Nat} (hi : i ≤ a.f2.length) {z : Int} (ez : wrap64 (wrap64 (wrap64 (x + y) - a.f0) - (i : Int)) = z) (hz : ¬inC b z) :
    jl a b j x y (k + 2) met (i : Int) = jl a b j x y k met ((i + 1 : Nat) : Int) := by
  obtain ⟨e1, e2, e0⟩ := at_w va hi
  have ia := in_at (a := a) hi
  unfold jl
  simp only [kimberlitelaw03_CurveJoins.l0]
  rw [if_pos e0, e1, at_law a, Option.bind_some, ez, at_law b, Option.bind_some, atR_in va ia, atR_out hz]
  simp only
  rw [if_pos trivial, if_neg (by simp)]
  simp only [kimberlitelaw03_CurveJoins.j4]
  rw [if_neg (by simp), e2]
  cases met
  · rw [if_neg (by simp), if_pos trivial, if_neg (by simp)]
  · rw [if_pos rfl]
theorem jl_ev {a b : S24} {x y : Int} (va : Vc a) (vb : Vc b) (vj : Vc (joinC a b)) (hx : inC a x) (hy : inC b y) : ∀ (n i : Nat) (met : Bool), i + n = a.f2.length + 1 →
    (met = true ∨ ∃ m : Nat, i ≤ m ∧ m ≤ a.f2.length ∧ inC b (x + y - (a.f0 + (m : Int))) ∧ valC a (a.f0 + (m : Int)) + valC b (x + y - (a.f0 + (m : Int))) = valC (joinC a b) (x + y)) →
    Ev (fun k => jl a b (joinC a b) x y k met (i : Int)) true
  | 0, i, met, hi, hor => by
    have hm : met = true := by
      rcases hor with h | ⟨m, m1, m2, _⟩
      · exact h
      · omega
    subst hm
    have b1 := val_bound va x
    have b2 := val_bound vb y
    have hle := join_le hx hy
    exact Ev.step (f := fun _ => some true) (fun k => jl_end a b _ x y k vj (by unfold wrap64; omega) (by omega)) (Ev.now _)
  | n + 1, i, met, hi, hor => by
    have x1 := in_bound va hx
    have y1 := in_bound vb hy
    obtain ⟨h1, h2, h3, h4, h5, _, h7⟩ := vc_parts va
    have ez : wrap64 (wrap64 (wrap64 (x + y) - a.f0) - (i : Int)) = x + y - (a.f0 + (i : Int)) := by unfold wrap64; omega
    by_cases hz : inC b (x + y - (a.f0 + (i : Int)))
    · have ia := in_at (a := a) (i := i) (by clear hor ez; omega)
      have hle := join_le ia hz
      rw [show a.f0 + (i : Int) + (x + y - (a.f0 + (i : Int))) = x + y by omega] at hle
      have b1 := val_bound va (a.f0 + (i : Int))
      have b2 := val_bound vb (x + y - (a.f0 + (i : Int)))
      have es : wrap64 (valC a (a.f0 + (i : Int)) + valC b (x + y - (a.f0 + (i : Int)))) = valC a (a.f0 + (i : Int)) + valC b (x + y - (a.f0 + (i : Int))) := by unfold wrap64; omega
      refine Ev.two (fun k => jl_hit a b _ x y k met va vb (by clear hor ez es hle b1 b2; omega) ez hz es (by clear hor ez es b1 b2; omega)) (jl_ev va vb vj hx hy n (i + 1) _ (by clear hor ez es hle b1 b2; omega) ?_)
      rcases hor with h | ⟨m, m1, m2, m3, m4⟩
      · left; rw [h]; rfl
      · by_cases e : m = i
        · subst e
          left
          rw [Bool.or_eq_true, beq_iff_eq]
          exact .inr m4
        · exact .inr ⟨m, Nat.lt_of_le_of_ne m1 (fun e' => e e'.symm), m2, m3, m4⟩
    · refine Ev.two (fun k => jl_miss a b _ x y k met va (by clear hor ez; omega) ez hz) (jl_ev va vb vj hx hy n (i + 1) met (by clear hor ez; omega) ?_)
      rcases hor with h | ⟨m, m1, m2, m3, m4⟩
      · exact .inl h
      · by_cases e : m = i
        · subst e; exact absurd m3 hz
        · exact .inr ⟨m, Nat.lt_of_le_of_ne m1 (fun e' => e e'.symm), m2, m3, m4⟩
/-- From the values on. -/
theorem joins_j1 {a b : S24} (x y : Int) (va : Vc a) (vb : Vc b) (vj : Vc (joinC a b)) : Ev (fun k => kimberlitelaw03_CurveJoins.j1 k x y false a.f0 a.f1 a.f2 b.f0 b.f1 b.f2 (joinC a b).f0 (joinC a b).f1 (joinC a b).f2) true := by
  by_cases hx : inC a x
  · by_cases hy : inC b y
    · have x1 := in_bound va hx
      have y1 := in_bound vb hy
      have ew : wrap64 (x + y) = x + y := by unfold wrap64; omega
      have hj := join_in hx hy
      obtain ⟨z, z1, z2, z3⟩ := join_met (vc_parts va).2.2.2.2.2.1 (vc_parts vb).2.2.2.2.2.1 hj
      have hl := jl_ev va vb vj hx hy (a.f2.length + 1) 0 false (by omega) (.inr ⟨(z - a.f0).toNat, by omega, by obtain ⟨q1, q2⟩ := z1; omega, by
        have e : a.f0 + (((z - a.f0).toNat : Nat) : Int) = z := by obtain ⟨q1, q2⟩ := z1; omega
        rw [e]
        exact ⟨z2, z3⟩⟩)
      refine Ev.two (f := fun k => jl a b (joinC a b) x y k false ((0 : Nat) : Int)) (fun k => ?_) hl
      simp only [kimberlitelaw03_CurveJoins.j1]
      rw [if_neg (by simp), at_law a, at_law b, Option.bind_some, Option.bind_some, atR_in va hx, atR_in vb hy]
      simp only
      rw [if_pos trivial]
      simp only [kimberlitelaw03_CurveJoins.j2]
      rw [if_neg (by simp), ew, at_law (joinC a b), Option.bind_some, atR_in vj hj]
      rfl
    · refine Ev.two (f := fun k => some true) (fun k => ?_) (Ev.now _)
      simp only [kimberlitelaw03_CurveJoins.j1]
      rw [if_neg (by simp), at_law a, at_law b, Option.bind_some, Option.bind_some, atR_in va hx, atR_out hy]
      simp only
      rw [if_pos trivial]
      simp only [kimberlitelaw03_CurveJoins.j2]
      rw [if_pos (by simp)]
      rfl
  · refine Ev.two (f := fun k => some true) (fun k => ?_) (Ev.now _)
    simp only [kimberlitelaw03_CurveJoins.j1]
    rw [if_neg (by simp), at_law a, at_law b, Option.bind_some, Option.bind_some, atR_out hx]
    simp only
    rw [if_neg (by simp)]
    simp only [kimberlitelaw03_CurveJoins.j2]
    rw [if_pos trivial]
    rfl
theorem joins_j0 (a b c : S24) (x y : Int) : Ev (fun k => kimberlitelaw03_CurveJoins.j0 k x y (joinR a.f0 a.f1 a.f2 b.f0 b.f1 b.f2).2.2.2 false a.f0 a.f1 a.f2 b.f0 b.f1 b.f2 c.f0 c.f1 c.f2 (joinR a.f0 a.f1 a.f2 b.f0 b.f1 b.f2).1 (joinR a.f0 a.f1 a.f2 b.f0 b.f1 b.f2).2.1 (joinR a.f0 a.f1 a.f2 b.f0 b.f1 b.f2).2.2.1) true := by
  by_cases h : Vc a ∧ Vc b
  · obtain ⟨va, vb⟩ := h
    rw [joinR_eq va vb]
    by_cases vj : Vc (joinC a b)
    · rw [if_pos vj]
      simp only
      have go := joins_j1 x y va vb vj
      refine Ev.step (f := fun k => if (joinR (joinC a b).f0 (joinC a b).f1 (joinC a b).f2 c.f0 c.f1 c.f2).2.2.2 = 0 then (if (joinR b.f0 b.f1 b.f2 c.f0 c.f1 c.f2).2.2.2 = 0 then (if (joinR a.f0 a.f1 a.f2 (joinR b.f0 b.f1 b.f2 c.f0 c.f1 c.f2).1 (joinR b.f0 b.f1 b.f2 c.f0 c.f1 c.f2).2.1 (joinR b.f0 b.f1 b.f2 c.f0 c.f1 c.f2).2.2.1).2.2.2 = 0 then ((kimberlitelaw03_alike.f k (joinR (joinC a b).f0 (joinC a b).f1 (joinC a b).f2 c.f0 c.f1 c.f2).1 (joinR (joinC a b).f0 (joinC a b).f1 (joinC a b).f2 c.f0 c.f1 c.f2).2.1 (joinR (joinC a b).f0 (joinC a b).f1 (joinC a b).f2 c.f0 c.f1 c.f2).2.2.1 (joinR a.f0 a.f1 a.f2 (joinR b.f0 b.f1 b.f2 c.f0 c.f1 c.f2).1 (joinR b.f0 b.f1 b.f2 c.f0 c.f1 c.f2).2.1 (joinR b.f0 b.f1 b.f2 c.f0 c.f1 c.f2).2.2.1).1 (joinR a.f0 a.f1 a.f2 (joinR b.f0 b.f1 b.f2 c.f0 c.f1 c.f2).1 (joinR b.f0 b.f1 b.f2 c.f0 c.f1 c.f2).2.1 (joinR b.f0 b.f1 b.f2 c.f0 c.f1 c.f2).2.2.1).2.1 (joinR a.f0 a.f1 a.f2 (joinR b.f0 b.f1 b.f2 c.f0 c.f1 c.f2).1 (joinR b.f0 b.f1 b.f2 c.f0 c.f1 c.f2).2.1 (joinR b.f0 b.f1 b.f2 c.f0 c.f1 c.f2).2.2.1).2.2.1).bind fun t671 => (kimberlitelaw03_CurveJoins.j1 k x y (!t671) a.f0 a.f1 a.f2 b.f0 b.f1 b.f2 (joinC a b).f0 (joinC a b).f1 (joinC a b).f2)) else (kimberlitelaw03_CurveJoins.j1 k x y false a.f0 a.f1 a.f2 b.f0 b.f1 b.f2 (joinC a b).f0 (joinC a b).f1 (joinC a b).f2)) else (kimberlitelaw03_CurveJoins.j1 k x y false a.f0 a.f1 a.f2 b.f0 b.f1 b.f2 (joinC a b).f0 (joinC a b).f1 (joinC a b).f2)) else (kimberlitelaw03_CurveJoins.j1 k x y false a.f0 a.f1 a.f2 b.f0 b.f1 b.f2 (joinC a b).f0 (joinC a b).f1 (joinC a b).f2)) (fun k => ?_) ?_
      · simp only [kimberlitelaw03_CurveJoins.j0]
        rw [if_neg (by simp), if_pos trivial]
        rfl
      · by_cases vc : Vc c
        · rw [joinR_eq vj vc, joinR_eq vb vc]
          by_cases v1 : Vc (joinC (joinC a b) c)
          · rw [if_pos v1]
            refine Ev.congr (fun k => if_pos rfl) ?_
            by_cases v2 : Vc (joinC b c)
            · rw [if_pos v2]
              refine Ev.congr (fun k => if_pos rfl) ?_
              simp only
              rw [joinR_eq va v2, ← joinC_assoc, if_pos v1]
              refine Ev.congr (fun k => if_pos rfl) (Ev.bind (alike_ev _ _ _ (Nat.le_trans (vc_len v1) (by decide))) go)
            · rw [if_neg v2]
              exact Ev.congr (fun k => if_neg (by simp)) go
          · rw [if_neg v1]
            exact Ev.congr (fun k => if_neg (by simp)) go
        · rw [joinR_arg (a := joinC a b) (b := c) (fun e => vc e.2)]
          exact Ev.congr (fun k => if_neg (by simp)) go
    · rw [if_neg vj]
      refine Ev.step (f := fun _ => some true) (fun k => ?_) (Ev.now _)
      simp only [kimberlitelaw03_CurveJoins.j0]
      rw [if_neg (by simp), if_neg (by simp), valid_f a, Option.bind_some, if_pos (decide_eq_true va), valid_f b, Option.bind_some, decide_eq_true vb, if_pos (by decide)]
      rfl
  · rw [joinR_arg h]
    refine Ev.step (f := fun _ => some true) (fun k => ?_) (Ev.now _)
    simp only [kimberlitelaw03_CurveJoins.j0]
    rw [if_neg (by simp), if_neg (by simp), valid_f a, Option.bind_some]
    by_cases va : Vc a
    · rw [if_pos (decide_eq_true va), valid_f b, Option.bind_some, decide_eq_false (fun e => h ⟨va, e⟩), if_pos (by decide)]
      rfl
    · rw [decide_eq_false va, if_neg (by simp), if_pos (by decide)]
      rfl
theorem CurveJoins_pure (a b c : S24) (x y : Int) : ∃ k, kimberlitelaw03_CurveJoins.f k a.f0 a.f1 a.f2 b.f0 b.f1 b.f2 c.f0 c.f1 c.f2 x y = some true := by
  refine Ev.rounds ?_
  unfold kimberlitelaw03_CurveJoins.f curve_Join.f
  rw [joinR_comm a b]
  have go := joins_j0 a b c x y
  have hl := joinR_len a b
  generalize joinR a.f0 a.f1 a.f2 b.f0 b.f1 b.f2 = r at go hl
  obtain ⟨r1, r2, r3, r4⟩ := r
  refine Ev.congr (fun k => Option.bind_some _ _) (Ev.congr (fun k => Option.bind_some _ _) (Ev.bind (alike_ev r1 r2 r3 (Nat.le_trans hl (by decide))) (Ev.congr (fun k => if_pos rfl) ?_)))
  simp only
  rw [show (r4 != r4) = false by simp]
  exact go
theorem CurveJoins_walk {W : World} (x0 : S24) (a0 : Option Addr) (cap0 : Nat) (c0 : x0.f2.length ≤ cap0) (hr0 : Kd.C (Kd.int .i64) W a0 x0.f2.length x0.f2) (w0 : okC x0) (x1 : S24) (a1 : Option Addr) (cap1 : Nat) (c1 : x1.f2.length ≤ cap1) (hr1 : Kd.C (Kd.int .i64) W a1 x1.f2.length x1.f2) (w1 : okC x1) (x2 : S24) (a2 : Option Addr) (cap2 : Nat) (c2 : x2.f2.length ≤ cap2) (hr2 : Kd.C (Kd.int .i64) W a2 x2.f2.length x2.f2) (w2 : okC x2) (a3 : Int) (b3 : (Lit.int .i64 a3).wf = true) (a4 : Int) (b4 : (Lit.int .i64 a4).wf = true) :
    Calls Try.prog 3 #[.agg #[.int .i64 x0.f0, .int .i64 x0.f1, .slice a0 x0.f2.length cap0], .agg #[.int .i64 x1.f0, .int .i64 x1.f1, .slice a1 x1.f2.length cap1], .agg #[.int .i64 x2.f0, .int .i64 x2.f1, .slice a2 x2.f2.length cap2], .int .i64 a3, .int .i64 a4] W fun e w' => e = .returned (.bool true) ∧ Below W.heap.size W w' := by
  obtain ⟨k, h⟩ := CurveJoins_pure x0 x1 x2 a3 a4
  exact kimberlitelaw03_CurveJoins.calls k _ _ _ _ x0.f2 _ _ _ _ x1.f2 _ _ _ _ x2.f2 a3 a4 true W hr0 c0 hr1 c1 hr2 c2 h
end Go.Proofs.Ytingjpcgehgiiaa.Pr
end
section
namespace Go.Proofs.Ytingjpcgehgiiaa.curveJoins
open Go.ChangeShapes Go.WideShapes Go.ChangeAt Go.RowKit Go.Proofs.Ytingjpcgehgiiaa.Pr
set_option linter.unusedVariables false
theorem own : ownKnob Try.prog.godebug = none := by kernel_rfl
theorem laidOut : laidOutB Try.prog = true := by kernel_rfl
set_option maxRecDepth 100000 in
theorem lifted (os : Os) (started : os.Started) (H : Type) (enc : TypeId × Value → H) :
    ReturnsInHanded {} Try.checked os 3 .any (Rows.curveJoinsSpec.pre6 enc Try.prog Try.f3 Rows.curveJoinsRow.domain false) (Rows.curveJoinsSpec.post enc Try.prog Try.f3 false true false false) := by
  refine returnsInHanded_of_change (C := Try.checked) own started (by kernel_rfl) Try.func3
    (ChangeSpec.witness6 (enc := enc) (C := Try.checked) false ⟨#[], #[.agg #[.int .i64 0, .int .i64 0, .slice none 0 0], .agg #[.int .i64 0, .int .i64 0, .slice none 0 0], .agg #[.int .i64 0, .int .i64 0, .slice none 0 0], .int .i64 0, .int .i64 0], []⟩ 8 (by kernel_rfl) (by kernel_rfl) (by kernel_rfl) (by kernel_rfl)) ?_
  intro W base args ds gs before hval0 hW hcnd _
  have hval : ∀ (j : Nat) t v, Try.f3.params[j]? = some t → args[j]? = some v → Value.okWide Try.prog W .any base t v := hval0
  have hW' := hW
  obtain ⟨p, q, hA0, hV, rfl, hfz, hnd⟩ := hW
  have hA : DataW.TrodAll enc Try.prog W 0 (fun _ => true) true Try.f3.params.toList args.toList ds p := hA0
  rw [Try.params3] at hA hval
  obtain ⟨v0, vs0, d0, ds0, p0, q0, hargs, rfl, rfl, h0, r0⟩ := trodAll_cons hA
  obtain ⟨v1, vs1, d1, ds1, p1, q1, rfl, rfl, rfl, h1, r1⟩ := trodAll_cons r0
  obtain ⟨v2, vs2, d2, ds2, p2, q2, rfl, rfl, rfl, h2, r2⟩ := trodAll_cons r1
  obtain ⟨v3, vs3, d3, ds3, p3, q3, rfl, rfl, rfl, h3, r3⟩ := trodAll_cons r2
  obtain ⟨v4, vs4, d4, ds4, p4, q4, rfl, rfl, rfl, h4, r4⟩ := trodAll_cons r3
  obtain ⟨rfl, rfl, rfl⟩ := trodAll_nil r4
  obtain rfl : args = #[v0, v1, v2, v3, v4] := by cases args; simp_all
  obtain ⟨rfl, rfl⟩ := trodVars_none hV
  have k0 := h0
  have lt0 : ∀ x ∈ p0, x.block < W.heap.size := by obtain ⟨m, hm⟩ := k0; exact DataW.trod_lt m _ _ _ hm
  obtain ⟨x0, a0, cap0, rfl, c0, hr0, w0⟩ := open_curve (hval 0 24 v0 rfl rfl) h0
  have k1 := h1
  have lt1 : ∀ x ∈ p1, x.block < W.heap.size := by obtain ⟨m, hm⟩ := k1; exact DataW.trod_lt m _ _ _ hm
  obtain ⟨x1, a1, cap1, rfl, c1, hr1, w1⟩ := open_curve (hval 1 24 v1 rfl rfl) h1
  have k2 := h2
  have lt2 : ∀ x ∈ p2, x.block < W.heap.size := by obtain ⟨m, hm⟩ := k2; exact DataW.trod_lt m _ _ _ hm
  obtain ⟨x2, a2, cap2, rfl, c2, hr2, w2⟩ := open_curve (hval 2 24 v2 rfl rfl) h2
  obtain ⟨a3, rfl, rfl, rfl, w3⟩ := open_int Try.underlying3 (hval 3 3 v3 rfl rfl) h3
  obtain ⟨a4, rfl, rfl, rfl, w4⟩ := open_int Try.underlying3 (hval 4 3 v4 rfl rfl) h4
  clear hA0 hval0
  try simp only [List.append_nil] at hW'
  refine (CurveJoins_walk x0 a0 cap0 c0 hr0 w0 x1 a1 cap1 c1 hr1 w1 x2 a2 cap2 c2 hr2 w2 a3 w3 a4 w4).mono fun e W' ⟨he, bel⟩ => ?_
  subst he
  exact ⟨_, rfl, _, _, _, [], _, [], hW', trodAll_mk1 (shut_bool Try.underlying4 _), (trodAll_cons_mk (Below.trod laidOut (by kernel_rfl) (of_decide_eq_true (by kernel_rfl)) k0 bel lt0) (trodAll_cons_mk (Below.trod laidOut (by kernel_rfl) (of_decide_eq_true (by kernel_rfl)) k1 bel lt1) (trodAll_cons_mk (Below.trod laidOut (by kernel_rfl) (of_decide_eq_true (by kernel_rfl)) k2 bel lt2) (trodAll_cons_mk (shut_int Try.underlying3 w3) (trodAll_cons_mk (shut_int Try.underlying3 w4) trodAll_mk0))))), rfl, bel.frame _, fun h => by cases h⟩
theorem over : Rows.curveJoinsRow.holds Try.pinned (OpenSpec.ofChange Rows.curveJoinsSpec) :=
  OpenClaim.holds_of_wide 3 Try.f3 rfl rfl rfl rfl rfl rfl rfl ⟨rfl, rfl, rfl, rfl, rfl⟩ rfl rfl rfl rfl rfl (by kernel_rfl) Try.func3 (by kernel_rfl)
    (of_decide_eq_true (by kernel_rfl)) (by unfold Func.isWrapper; first | (rw [if_pos (by decide +kernel)]; kernel_rfl) | (rw [if_neg (by decide +kernel)]; exact ⟨rfl, rfl⟩))
    (fun os started H enc _ => lifted os started H enc)
theorem proved : Rows.CurveJoinsSaid := over
end Go.Proofs.Ytingjpcgehgiiaa.curveJoins
namespace Go.Proofs.Ytingjpcgehgiiaa
/-- The row, under a short name, for the claim. -/
theorem curveJoins_holds : Rows.CurveJoinsSaid := curveJoins.proved
end Go.Proofs.Ytingjpcgehgiiaa
end
