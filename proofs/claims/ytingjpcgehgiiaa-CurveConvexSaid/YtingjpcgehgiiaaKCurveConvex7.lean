/- What the proof of the law needs, trimmed and merged by wip/pack.py out of the texts YtingjpcgehgiiaaCvx, YtingjpcgehgiiaaArgs, YtingjpcgehgiiaaWalkCurveConvex, YtingjpcgehgiiaaRowCurveConvex. No condition. -/
import Derived.Deep.Slices
import Derived.Deep.Fields
import Derived.ChangeSame
import Derived.Lib.SmallJoins
import Derived.OpenShut
import Derived.Test.YtingjpcgehgiiaaRows
import Derived.WalkKit
import Derived.ProofKit
import Derived.ShutString
import Derived.ChangeOld
import Derived.Below
import Derived.SizedLaws
import Derived.Test.YtingjpcgehgiiaaKCurveConvex0
import Derived.Test.YtingjpcgehgiiaaKCurveConvex1
import Derived.Test.YtingjpcgehgiiaaKCurveConvex2
import Derived.Test.YtingjpcgehgiiaaKCurveConvex3
import Derived.Test.YtingjpcgehgiiaaKCurveConvex4
import Derived.Test.YtingjpcgehgiiaaKCurveConvex5
import Derived.Test.YtingjpcgehgiiaaKCurveConvex6
section
namespace Go.Proofs.Ytingjpcgehgiiaa.Pr
open Go.RowKit Go.Proofs.YtingjpcgehgiiaaW.PrintWords Go.Proofs.YtingjpcgehgiiaaW.PrintLast Go.Proofs.YtingjpcgehgiiaaW.PrintMore
set_option linter.unusedVariables false
set_option linter.unusedSimpArgs false
theorem madeR_ok {c : S24} (h : (madeR c).2.2.2 = 0) : Vc c ∧ madeR c = (c.f0, c.f1, c.f2, 0) := by
  unfold madeR at *
  by_cases hv : Vc c
  · exact ⟨hv, if_pos hv⟩
  · rw [if_neg hv] at h
    simp at h
theorem part_ok {c : S24} {x y : Int} (h : (partR c x y).2.2.2 = 0) : ¬mx x c.f0 > mn y (toC c) ∧ Vc (partC c x y) ∧ partR c x y = ((partC c x y).f0, (partC c x y).f1, (partC c x y).f2, 0) := by
  unfold partR at *
  by_cases hv : Vc c
  · rw [if_pos hv] at h ⊢
    by_cases hg : mx x c.f0 > mn y (toC c)
    · rw [if_pos hg] at h
      simp at h
    · rw [if_neg hg] at h ⊢
      exact ⟨hg, madeR_ok h⟩
  · rw [if_neg hv] at h
    simp at h
theorem tilt_ok {c : S24} {p : Int} (h : (tiltR c p).2.2.2 = 0) : inB p 1048576 = true ∧ Vc (tiltC c p) ∧ tiltR c p = ((tiltC c p).f0, (tiltC c p).f1, (tiltC c p).f2, 0) := by
  unfold tiltR at *
  by_cases hv : Vc c ∧ inB p 1048576 = true
  · rw [if_pos hv] at h ⊢
    exact ⟨hv.2, madeR_ok h⟩
  · rw [if_neg hv] at h
    simp at h
theorem move_ok {c : S24} {x y : Int} (h : (moveR c x y).2.2.2 = 0) : inB x 1048576 = true ∧ inB y 1099511627776 = true ∧ Vc (moveC c x y) ∧ moveR c x y = ((moveC c x y).f0, (moveC c x y).f1, (moveC c x y).f2, 0) := by
  unfold moveR at *
  by_cases hv : Vc c ∧ inB x 1048576 = true ∧ inB y 1099511627776 = true
  · rw [if_pos hv] at h ⊢
    exact ⟨hv.2.1, hv.2.2, madeR_ok h⟩
  · rw [if_neg hv] at h
    simp at h
theorem flip_ok {c : S24} (h : (flipR c).2.2.2 = 0) : Vc (flipC c) ∧ flipR c = ((flipC c).f0, (flipC c).f1, (flipC c).f2, 0) := by
  unfold flipR at *
  by_cases hv : validC c.f0 c.f1 c.f2 = true
  · rw [if_pos hv] at h ⊢
    by_cases hf : validC (flipC c).f0 (flipC c).f1 (flipC c).f2 = true
    · exact ⟨hf, if_pos hf⟩
    · rw [if_neg hf] at h
      simp at h
  · rw [if_neg hv] at h
    simp at h
theorem add_ok {a b : S24} (h : (addR a b).2.2.2 = 0) : ¬mn (toC a) (toC b) < mx a.f0 b.f0 ∧ Vc (addC a b (mx a.f0 b.f0) (mn (toC a) (toC b))) ∧ addR a b = ((addC a b (mx a.f0 b.f0) (mn (toC a) (toC b))).f0, (addC a b (mx a.f0 b.f0) (mn (toC a) (toC b))).f1, (addC a b (mx a.f0 b.f0) (mn (toC a) (toC b))).f2, 0) := by
  unfold addR at *
  by_cases hv : (validC a.f0 a.f1 a.f2 && validC b.f0 b.f1 b.f2) = true
  · rw [if_pos hv] at h ⊢
    unfold addOk at *
    by_cases hg : mn (toC a) (toC b) < mx a.f0 b.f0
    · rw [if_pos hg] at h
      simp at h
    · rw [if_neg hg] at h ⊢
      by_cases hf : Vc (addC a b (mx a.f0 b.f0) (mn (toC a) (toC b)))
      · exact ⟨hg, hf, if_pos hf⟩
      · rw [if_neg hf] at h
        simp at h
  · rw [if_neg hv] at h
    simp at h
theorem part_z {a : S24} {x y z : Int} (hg : ¬mx x a.f0 > mn y (toC a)) : inC (partC a x y) z ↔ (x ≤ z ∧ z ≤ y ∧ inC a z) := by
  obtain ⟨i1, i2, i3⟩ := part_in hg
  rw [show inC (partC a x y) z ↔ _ from in_sub i1 i2 i3]
  rw [mx_eq, mn_eq]
  unfold inC toC
  omega
theorem conv6 {a : S24} (ha : Vc a) (x y z : Int) : Ev (fun k => kimberlitelaw03_CurveConvex.j6 k x y z (atR a z).1 (atR a z).2 a.f0 a.f1 a.f2) true := by
  refine Ev.step (f := fun _ => some true) (fun k => ?_) (Ev.now _)
  simp only [kimberlitelaw03_CurveConvex.j6]
  rw [part_law a x y, Option.bind_some, at_law ⟨(partR a x y).1, (partR a x y).2.1, (partR a x y).2.2.1⟩ z, Option.bind_some]
  by_cases he : (partR a x y).2.2.2 = 0
  · rw [if_pos he]
    obtain ⟨hg, hv, e⟩ := part_ok he
    have hin := part_z (a := a) (x := x) (y := y) (z := z) hg
    rw [e]
    simp only
    rw [valid_f (partC a x y), Option.bind_some, if_pos (decide_eq_true hv)]
    show (if (atR a z).2 = true then (if z ≥ x then (if ((atR (partC a x y) z).2 == decide (z ≤ y)) = true then _ else _) else _) else _) = _
    by_cases hz : inC a z
    · rw [if_pos (by rw [atR_in ha hz])]
      by_cases h1 : z ≥ x
      · rw [if_pos h1]
        by_cases h2 : z ≤ y
        · have hp : inC (partC a x y) z := hin.2 ⟨h1, h2, hz⟩
          have ep : atR ⟨(partC a x y).f0, (partC a x y).f1, (partC a x y).f2⟩ z = (valC (partC a x y) z, true) := atR_in hv hp
          have ep' : atR (partC a x y) z = (valC (partC a x y) z, true) := atR_in hv hp
          obtain ⟨i1, i2, i3⟩ := part_in hg
          have hval : valC (partC a x y) z = valC a z := val_part i1 i2 ((in_sub i1 i2 i3).1 hp)
          rw [ep', decide_eq_true h2, atR_in ha hz]
          simp only
          rw [if_pos (by rfl), if_pos hval]
          rfl
        · have hp : ¬inC (partC a x y) z := fun h => h2 (hin.1 h).2.1
          have ep' : atR (partC a x y) z = (0, false) := atR_out hp
          rw [ep', decide_eq_false h2, if_pos (by rfl)]
          rfl
      · rw [if_neg h1]
        have hp : ¬inC (partC a x y) z := fun h => h1 (hin.1 h).1
        have ep' : atR (partC a x y) z = (0, false) := atR_out hp
        show (if ((atR (partC a x y) z).2 == false) = true then _ else _) = _
        rw [ep', if_pos (by rfl)]
        rfl
    · rw [if_neg (by rw [atR_out hz]; simp)]
      have hp : ¬inC (partC a x y) z := fun h => hz (hin.1 h).2.2
      have ep' : atR (partC a x y) z = (0, false) := atR_out hp
      show (if ((atR (partC a x y) z).2 == false) = true then _ else _) = _
      rw [ep', if_pos (by rfl)]
      rfl
  · rw [if_neg he]
    rfl
theorem conv5 {a : S24} (ha : Vc a) (x y z : Int) : Ev (fun k => kimberlitelaw03_CurveConvex.j5 k x y z (atR a z).1 (atR a z).2 false a.f0 a.f1 a.f2) true := by
  refine Ev.step (fun k => ?_) (conv6 ha x y z)
  simp only [kimberlitelaw03_CurveConvex.j5]
  rw [if_neg (by simp)]
theorem conv4f {a : S24} (ha : Vc a) (x y z c0 c1 : Int) (c2 : List Int) : Ev (fun k => kimberlitelaw03_CurveConvex.j4 k x y z (atR a z).1 (atR a z).2 false a.f0 a.f1 a.f2 c0 c1 c2) true := by
  refine Ev.step (fun k => ?_) (conv6 ha x y z)
  simp only [kimberlitelaw03_CurveConvex.j4]
  rw [if_neg (by simp)]
theorem conv4t {a : S24} (ha : Vc a) (x y z : Int) (hv : Vc (moveC a x y)) (hz1 : -1099511627776 < z) (hz2 : z < 1099511627776) (hx : -1048576 ≤ x ∧ x ≤ 1048576) (hy : -1099511627776 ≤ y ∧ y ≤ 1099511627776) :
    Ev (fun k => kimberlitelaw03_CurveConvex.j4 k x y z (atR a z).1 (atR a z).2 true a.f0 a.f1 a.f2 (moveC a x y).f0 (moveC a x y).f1 (moveC a x y).f2) true := by
  refine Ev.step (fun k => ?_) (conv5 ha x y z)
  simp only [kimberlitelaw03_CurveConvex.j4]
  have ew : wrap64 (z + x) = z + x := by unfold wrap64; omega
  rw [if_pos trivial, ew, at_law (moveC a x y) (z + x), Option.bind_some, valid_f (moveC a x y), Option.bind_some, if_pos (decide_eq_true hv)]
  by_cases hz : inC a z
  · have hb := val_bound ha z
    have e2 : wrap64 (valC a z + y) = valC a z + y := by unfold wrap64; omega
    rw [atR_in ha hz, atR_in hv (in_move.2 hz)]
    simp only
    rw [if_neg (by simp), if_pos trivial, e2, val_move]
    simp
  · rw [atR_out hz, atR_out (fun h => hz (in_move.1 h))]
    simp only
    rw [if_neg (by simp), if_neg (by simp)]
theorem conv3 {a : S24} (ha : Vc a) (x y z : Int) : Ev (fun k => kimberlitelaw03_CurveConvex.j3 k x y z (atR a z).1 (atR a z).2 false a.f0 a.f1 a.f2) true := by
  refine Ev.step (f := fun k => (curve_Move.f k a.f0 a.f1 a.f2 x y).bind fun bt806 => (if bt806.2.2.2 = 0 then (if z > (-1099511627776) then (kimberlitelaw03_CurveConvex.j4 k x y z (atR a z).1 (atR a z).2 (decide (z < 1099511627776)) a.f0 a.f1 a.f2 bt806.1 bt806.2.1 bt806.2.2.1) else (kimberlitelaw03_CurveConvex.j4 k x y z (atR a z).1 (atR a z).2 false a.f0 a.f1 a.f2 bt806.1 bt806.2.1 bt806.2.2.1)) else (kimberlitelaw03_CurveConvex.j4 k x y z (atR a z).1 (atR a z).2 false a.f0 a.f1 a.f2 bt806.1 bt806.2.1 bt806.2.2.1))) (fun k => ?_) (Ev.bind (move_ev a x y) ?_)
  · simp only [kimberlitelaw03_CurveConvex.j3]
    rw [if_neg (by simp)]
  · by_cases he : (moveR a x y).2.2.2 = 0
    · refine Ev.congr (fun k => if_pos he) ?_
      by_cases hz : z > -1099511627776
      · refine Ev.congr (fun k => if_pos hz) ?_
        by_cases hz2 : z < 1099511627776
        · obtain ⟨hx, hy, hv, e⟩ := move_ok he
          rw [e, decide_eq_true hz2]
          exact conv4t ha x y z hv hz hz2 (inB_iff.1 hx) (inB_iff.1 hy)
        · rw [decide_eq_false hz2]
          exact conv4f ha x y z _ _ _
      · exact Ev.congr (fun k => if_neg hz) (conv4f ha x y z _ _ _)
    · exact Ev.congr (fun k => if_neg he) (conv4f ha x y z _ _ _)
theorem conv2 {a : S24} (ha : Vc a) (p x y z : Int) : Ev (fun k => kimberlitelaw03_CurveConvex.j2 k p x y z (atR a z).1 (atR a z).2 false a.f0 a.f1 a.f2) true := by
  refine Ev.step (f := fun k => (curve_Tilt.f k a.f0 a.f1 a.f2 p).bind fun bt797 => ((kimberlitelaw03_at.f bt797.1 bt797.2.1 bt797.2.2.1 z).bind fun bt803 => (if bt797.2.2.2 = 0 then ((curve_Valid.f bt797.1 bt797.2.1 bt797.2.2.1).bind fun t805 => (if t805 = true then (if (bt803.2 != (atR a z).2) = true then (kimberlitelaw03_CurveConvex.j3 k x y z (atR a z).1 (atR a z).2 true a.f0 a.f1 a.f2) else (if bt803.2 = true then (kimberlitelaw03_CurveConvex.j3 k x y z (atR a z).1 (atR a z).2 (bt803.1 != (wrap64 ((atR a z).1 + (wrap64 (p * z))))) a.f0 a.f1 a.f2) else (kimberlitelaw03_CurveConvex.j3 k x y z (atR a z).1 (atR a z).2 false a.f0 a.f1 a.f2))) else (kimberlitelaw03_CurveConvex.j3 k x y z (atR a z).1 (atR a z).2 true a.f0 a.f1 a.f2))) else (kimberlitelaw03_CurveConvex.j3 k x y z (atR a z).1 (atR a z).2 false a.f0 a.f1 a.f2)))) (fun k => ?_) (Ev.bind (tilt_ev a p) ?_)
  · simp only [kimberlitelaw03_CurveConvex.j2]
    rw [if_neg (by simp)]
  · rw [at_law ⟨(tiltR a p).1, (tiltR a p).2.1, (tiltR a p).2.2.1⟩ z]
    refine Ev.congr (fun k => Option.bind_some _ _) ?_
    by_cases he : (tiltR a p).2.2.2 = 0
    · refine Ev.congr (fun k => if_pos he) ?_
      obtain ⟨hp, hv, e⟩ := tilt_ok he
      rw [e]
      simp only
      rw [valid_f (tiltC a p)]
      refine Ev.congr (fun k => Option.bind_some _ _) (Ev.congr (fun k => if_pos (decide_eq_true hv)) ?_)
      have hin : inC (tiltC a p) z ↔ inC a z := by unfold inC tiltC; simp
      have c3 := conv3 ha x y z
      by_cases hz : inC a z
      · have et : atR ⟨(tiltC a p).f0, (tiltC a p).f1, (tiltC a p).f2⟩ z = (valC (tiltC a p) z, true) := atR_in hv (hin.2 hz)
        have hb := val_bound ha z
        have hm := mul_bound (P := 1048576) (X := 2097152) (inB_iff.1 hp) (in_bound ha hz)
        have e1 : wrap64 (p * z) = p * z := by unfold wrap64; omega
        have e2 : wrap64 (valC a z + p * z) = valC a z + p * z := by unfold wrap64; omega
        rw [atR_in ha hz] at c3 ⊢
        rw [et]
        simp only at c3 ⊢
        rw [e1, e2, val_tilt hz]
        refine Ev.congr (fun k => if_neg (by simp)) (Ev.congr (fun k => if_pos trivial) ?_)
        rw [bne_self_eq_false]
        exact c3
      · have et : atR ⟨(tiltC a p).f0, (tiltC a p).f1, (tiltC a p).f2⟩ z = (0, false) := atR_out (fun h => hz (hin.1 h))
        rw [atR_out hz] at c3 ⊢
        rw [et]
        simp only at c3 ⊢
        exact Ev.congr (fun k => if_neg (by simp)) (Ev.congr (fun k => if_neg (by simp)) c3)
    · exact Ev.congr (fun k => if_neg he) (conv3 ha x y z)
theorem conv1 {a : S24} (ha : Vc a) (p x y z : Int) (hz0 : z ≤ 9223372036854775807) : Ev (fun k => kimberlitelaw03_CurveConvex.j1 k p x y z (atR a z).1 (atR a z).2 false a.f0 a.f1 a.f2) true := by
  have c2 := conv2 ha p x y z
  refine Ev.step (f := fun k => (kimberlitelaw03_at.f (flipR a).1 (flipR a).2.1 (flipR a).2.2.1 (wrap64 (-z))).bind fun bt794 => (if (flipR a).2.2.2 = 0 then (if z > (-1099511627776) then ((curve_Valid.f (flipR a).1 (flipR a).2.1 (flipR a).2.2.1).bind fun t796 => (if t796 = true then (if (bt794.2 != (atR a z).2) = true then (kimberlitelaw03_CurveConvex.j2 k p x y z (atR a z).1 (atR a z).2 true a.f0 a.f1 a.f2) else (if bt794.2 = true then (kimberlitelaw03_CurveConvex.j2 k p x y z (atR a z).1 (atR a z).2 (bt794.1 != (atR a z).1) a.f0 a.f1 a.f2) else (kimberlitelaw03_CurveConvex.j2 k p x y z (atR a z).1 (atR a z).2 false a.f0 a.f1 a.f2))) else (kimberlitelaw03_CurveConvex.j2 k p x y z (atR a z).1 (atR a z).2 true a.f0 a.f1 a.f2))) else (kimberlitelaw03_CurveConvex.j2 k p x y z (atR a z).1 (atR a z).2 false a.f0 a.f1 a.f2)) else (kimberlitelaw03_CurveConvex.j2 k p x y z (atR a z).1 (atR a z).2 false a.f0 a.f1 a.f2))) (fun k => ?_) ?_
  · simp only [kimberlitelaw03_CurveConvex.j1]
    rw [if_neg (by simp)]
    rfl
  · rw [at_law ⟨(flipR a).1, (flipR a).2.1, (flipR a).2.2.1⟩ (wrap64 (-z))]
    refine Ev.congr (fun k => Option.bind_some _ _) ?_
    by_cases he : (flipR a).2.2.2 = 0
    · refine Ev.congr (fun k => if_pos he) ?_
      by_cases hz1 : z > -1099511627776
      · refine Ev.congr (fun k => if_pos hz1) ?_
        have ew : wrap64 (-z) = -z := by unfold wrap64; omega
        rw [ew]
        obtain ⟨hv, e⟩ := flip_ok he
        rw [e]
        simp only
        rw [valid_f (flipC a)]
        refine Ev.congr (fun k => Option.bind_some _ _) (Ev.congr (fun k => if_pos (decide_eq_true hv)) ?_)
        by_cases hz : inC a z
        · have et : atR ⟨(flipC a).f0, (flipC a).f1, (flipC a).f2⟩ (-z) = (valC (flipC a) (-z), true) := atR_in hv ((in_flip ha).2 hz)
          rw [atR_in ha hz] at c2 ⊢
          rw [et]
          simp only at c2 ⊢
          rw [val_flip ha hz]
          refine Ev.congr (fun k => if_neg (by simp)) (Ev.congr (fun k => if_pos trivial) ?_)
          rw [bne_self_eq_false]
          exact c2
        · have et : atR ⟨(flipC a).f0, (flipC a).f1, (flipC a).f2⟩ (-z) = (0, false) := atR_out (fun h => hz ((in_flip ha).1 h))
          rw [atR_out hz] at c2 ⊢
          rw [et]
          simp only at c2 ⊢
          exact Ev.congr (fun k => if_neg (by simp)) (Ev.congr (fun k => if_neg (by simp)) c2)
      · exact Ev.congr (fun k => if_neg hz1) c2
    · exact Ev.congr (fun k => if_neg he) c2
theorem addR_arg {a b : S24} (h : ¬(Vc a ∧ Vc b)) : addR a b = (0, 0, [], 2) := by
  unfold addR
  rw [if_neg]
  rw [Bool.and_eq_true]
  exact h
theorem conv0t {a b : S24} (h : ¬(Vc a ∧ Vc b)) (p x y z : Int) : Ev (fun k => kimberlitelaw03_CurveConvex.j0 k p x y z true a.f0 a.f1 a.f2 b.f0 b.f1 b.f2) true := by
  refine Ev.step (f := fun _ => some true) (fun k => ?_) (Ev.now _)
  simp only [kimberlitelaw03_CurveConvex.j0]
  rw [if_pos trivial]
  show (some (addR a b)).bind _ = _
  rw [addR_arg h]
  rfl
theorem conv0 {a b : S24} (ha : Vc a) (hb : Vc b) (p x y z : Int) (hz0 : z ≤ 9223372036854775807) : Ev (fun k => kimberlitelaw03_CurveConvex.j0 k p x y z false a.f0 a.f1 a.f2 b.f0 b.f1 b.f2) true := by
  have c1 := conv1 ha p x y z hz0
  refine Ev.step (f := fun k => (kimberlitelaw03_at.f (addR a b).1 (addR a b).2.1 (addR a b).2.2.1 z).bind fun bt785 => (if (addR a b).2.2.2 = 0 then ((curve_Valid.f (addR a b).1 (addR a b).2.1 (addR a b).2.2.1).bind fun t787 => (if t787 = true then (if (atR a z).2 = true then (if (bt785.2 != (atR b z).2) = true then (kimberlitelaw03_CurveConvex.j1 k p x y z (atR a z).1 (atR a z).2 true a.f0 a.f1 a.f2) else (if bt785.2 = true then (kimberlitelaw03_CurveConvex.j1 k p x y z (atR a z).1 (atR a z).2 (bt785.1 != (wrap64 ((atR a z).1 + (atR b z).1))) a.f0 a.f1 a.f2) else (kimberlitelaw03_CurveConvex.j1 k p x y z (atR a z).1 (atR a z).2 false a.f0 a.f1 a.f2))) else (if (bt785.2 != false) = true then (kimberlitelaw03_CurveConvex.j1 k p x y z (atR a z).1 (atR a z).2 true a.f0 a.f1 a.f2) else (if bt785.2 = true then (kimberlitelaw03_CurveConvex.j1 k p x y z (atR a z).1 (atR a z).2 (bt785.1 != (wrap64 ((atR a z).1 + (atR b z).1))) a.f0 a.f1 a.f2) else (kimberlitelaw03_CurveConvex.j1 k p x y z (atR a z).1 (atR a z).2 false a.f0 a.f1 a.f2)))) else (kimberlitelaw03_CurveConvex.j1 k p x y z (atR a z).1 (atR a z).2 true a.f0 a.f1 a.f2))) else (kimberlitelaw03_CurveConvex.j1 k p x y z (atR a z).1 (atR a z).2 false a.f0 a.f1 a.f2))) (fun k => ?_) ?_
  · simp only [kimberlitelaw03_CurveConvex.j0]
    rw [if_neg (by simp), at_law a z, Option.bind_some, at_law b z, Option.bind_some]
    rfl
  · rw [at_law ⟨(addR a b).1, (addR a b).2.1, (addR a b).2.2.1⟩ z]
    refine Ev.congr (fun k => Option.bind_some _ _) ?_
    by_cases he : (addR a b).2.2.2 = 0
    · refine Ev.congr (fun k => if_pos he) ?_
      obtain ⟨hg, hv, e⟩ := add_ok he
      obtain ⟨i1, i2, i3, i4, i5⟩ := add_in ha hb hg
      have hin : inC (addC a b (mx a.f0 b.f0) (mn (toC a) (toC b))) z ↔ (inC a z ∧ inC b z) := by
        rw [in_add i1 i2 i3 i4 i5, mx_eq, mn_eq]
        unfold inC toC
        omega
      have hval : inC a z ∧ inC b z → valC (addC a b (mx a.f0 b.f0) (mn (toC a) (toC b))) z = valC a z + valC b z := fun h => val_add i1 i2 i3 i4 ((in_add i1 i2 i3 i4 i5).1 (hin.2 h))
      rw [e]
      simp only
      rw [valid_f (addC a b (mx a.f0 b.f0) (mn (toC a) (toC b)))]
      refine Ev.congr (fun k => Option.bind_some _ _) (Ev.congr (fun k => if_pos (decide_eq_true hv)) ?_)
      show Ev (fun k => if (atR a z).2 = true then (if ((atR (addC a b (mx a.f0 b.f0) (mn (toC a) (toC b))) z).2 != (atR b z).2) = true then _ else (if (atR (addC a b (mx a.f0 b.f0) (mn (toC a) (toC b))) z).2 = true then (kimberlitelaw03_CurveConvex.j1 k p x y z (atR a z).1 (atR a z).2 ((atR (addC a b (mx a.f0 b.f0) (mn (toC a) (toC b))) z).1 != _) a.f0 a.f1 a.f2) else _)) else (if ((atR (addC a b (mx a.f0 b.f0) (mn (toC a) (toC b))) z).2 != false) = true then _ else (if (atR (addC a b (mx a.f0 b.f0) (mn (toC a) (toC b))) z).2 = true then _ else _))) true
      by_cases hz : inC a z
      · by_cases hy : inC b z
        · have b1 := val_bound ha z
          have b2 := val_bound hb z
          have e1 : wrap64 (valC a z + valC b z) = valC a z + valC b z := by unfold wrap64; omega
          rw [atR_in ha hz] at c1 ⊢
          rw [atR_in hb hy, atR_in hv (hin.2 ⟨hz, hy⟩), hval ⟨hz, hy⟩]
          simp only at c1 ⊢
          rw [e1]
          refine Ev.congr (fun k => if_pos trivial) (Ev.congr (fun k => if_neg (by simp)) (Ev.congr (fun k => if_pos trivial) ?_))
          rw [bne_self_eq_false]
          exact c1
        · rw [atR_in ha hz] at c1 ⊢
          rw [atR_out hy, atR_out (fun h => hy (hin.1 h).2)]
          simp only at c1 ⊢
          exact Ev.congr (fun k => if_pos trivial) (Ev.congr (fun k => if_neg (by simp)) (Ev.congr (fun k => if_neg (by simp)) c1))
      · rw [atR_out hz] at c1 ⊢
        rw [atR_out (fun h => hz (hin.1 h).1)]
        simp only at c1 ⊢
        exact Ev.congr (fun k => if_neg (by simp)) (Ev.congr (fun k => if_neg (by simp)) (Ev.congr (fun k => if_neg (by simp)) c1))
    · exact Ev.congr (fun k => if_neg he) c1
theorem CurveConvex_pure (a b : S24) (p x y z : Int) (hz0 : z ≤ 9223372036854775807) : ∃ k, kimberlitelaw03_CurveConvex.f k a.f0 a.f1 a.f2 b.f0 b.f1 b.f2 p x y z = some true := by
  refine Ev.rounds ?_
  unfold kimberlitelaw03_CurveConvex.f
  rw [valid_f a, valid_f b]
  refine Ev.congr (fun k => Option.bind_some _ _) ?_
  by_cases ha : Vc a
  · refine Ev.congr (fun k => if_pos (decide_eq_true ha)) (Ev.congr (fun k => Option.bind_some _ _) ?_)
    by_cases hb : Vc b
    · rw [decide_eq_true hb]
      exact conv0 ha hb p x y z hz0
    · rw [decide_eq_false hb]
      exact conv0t (fun h => hb h.2) p x y z
  · exact Ev.congr (fun k => if_neg (by rw [decide_eq_true_eq]; exact ha)) (conv0t (fun h => ha h.1) p x y z)
end Go.Proofs.Ytingjpcgehgiiaa.Pr
end
section
namespace Go.Proofs.Ytingjpcgehgiiaa.Pr
open Go.RowKit Go.ChangeShapes Go.WideShapes Go.Deep Go.Joins Go.Proofs.YtingjpcgehgiiaaW.PrintWords Go.Proofs.YtingjpcgehgiiaaW.PrintLast Go.Proofs.YtingjpcgehgiiaaW.PrintMore
set_option linter.unusedVariables false
set_option linter.unusedSimpArgs false
section
variable {H : Type} {enc : TypeId × Value → H} {W : World}
/-- All numbers of a curve are int64s. -/
def okC (x : S24) : Prop := (Lit.int .i64 x.f0).wf = true ∧ (Lit.int .i64 x.f1).wf = true ∧ ∀ s ∈ x.f2, (Lit.int .i64 s).wf = true
set_option maxRecDepth 100000 in
theorem nums_fuel {fuel : Nat} {v : Value} {y : DataW H × List MemPlace} (hf : DataW.trod enc Try.prog W 0 (fun _ => true) true fuel 22 [v] = some y) :
    ∃ (a : Option Addr) (cap : Nat) (l : List Int), v = .slice a l.length cap ∧ l.length ≤ cap ∧ Kd.C (Kd.int .i64) W a l.length l ∧ ∀ x ∈ l, (Lit.int .i64 x).wf = true := by
  rcases open_slice Try.underlying22 hf with ⟨hcs, _⟩ | ⟨ad, len, cap, m, n, D, Pl, hcs, _, hl, hm, hmm, _, hi⟩
  · simp at hcs
    subst hcs
    exact ⟨none, 0, [], rfl, by simp, ⟨rfl, by simp, fun h => absurd h (by simp)⟩, fun x hx => absurd hx (by simp)⟩
  · simp at hcs
    subst hcs
    have hC : Try.prog.cellsOf 3 = 1 := by kernel_rfl
    have key : ∀ i, i < len → ∃ x : Int, (Lit.int .i64 x).wf = true ∧ W.cell? (ad.add i) = some (.int .i64 x) := by
      intro i hil
      obtain ⟨cs', hc, ht'⟩ := hi i (by rw [hmm]; simp; omega)
      rw [hC] at hc
      obtain ⟨_, hcl, hat⟩ := World.cells?_some hc
      match cs', hcl with
      | [c0], _ =>
        obtain ⟨a0, e0, _, w0⟩ := DataW.trod_int Try.underlying3 ht'
        simp at e0
        subst e0
        have h0 := hat 0 (by omega)
        rw [Deep.add_add] at h0
        exact ⟨a0, w0, by simpa using h0⟩
    obtain ⟨f, hf⟩ := choose_lt key
    refine ⟨some ad, cap, (List.range len).map f, by simp, by simpa using hl, ⟨by simp, by simp; simp only [maxLen] at hm; omega, fun _ => ⟨ad, rfl, fun j x hj => ?_⟩⟩, ?_⟩
    · obtain ⟨hjl, hx⟩ := List.getElem?_eq_some_iff.1 hj
      have hjl' : j < len := by simpa using hjl
      simp at hx
      subst hx
      obtain ⟨_, h0⟩ := hf j hjl'
      refine ⟨[.int .i64 (f j)], rfl, rfl, fun i u hu => ?_⟩
      match i, hu with
      | 0, hu => simp at hu; subst hu; simpa [show (Kd.int .i64).sz = 1 from rfl] using h0
      | i + 1, hu => simp at hu
    · intro x hx
      obtain ⟨j, hj, rfl⟩ := List.mem_map.1 hx
      exact (hf j (by simpa using hj)).1
set_option maxRecDepth 100000 in
theorem open_curve {b0 : Nat} {v : Value} {d : DataW H} {p : List MemPlace} (hv : Value.okWide Try.prog W .any b0 24 v) (h : DataW.Trod enc Try.prog W 0 (fun _ => true) true 24 v d p) :
    ∃ (x : S24) (a : Option Addr) (cap : Nat), v = .agg #[.int .i64 x.f0, .int .i64 x.f1, .slice a x.f2.length cap] ∧ x.f2.length ≤ cap ∧ Kd.C (Kd.int .i64) W a x.f2.length x.f2 ∧ okC x := by
  obtain ⟨c0, c1, c2, y0, y1, y2, m, rfl, rfl, rfl, hy0, hy1, hy2⟩ := open_agg3 Try.underlying24 (by kernel_rfl) (by kernel_rfl) hv h
  dsimp only at hy0 hy1 hy2
  obtain ⟨a0, e0, _, w0⟩ := DataW.trod_int Try.underlying3 hy0
  obtain ⟨a1, e1, _, w1⟩ := DataW.trod_int Try.underlying3 hy1
  obtain ⟨a2, cap, l, e2, h1, h2, h3⟩ := nums_fuel hy2
  simp at e0 e1
  subst e0 e1 e2
  exact ⟨⟨a0, a1, l⟩, a2, cap, rfl, h1, h2, w0, w1, h3⟩
end
end Go.Proofs.Ytingjpcgehgiiaa.Pr
end
section
namespace Go.Proofs.Ytingjpcgehgiiaa.Pr
open Go.RowKit Go.Proofs.YtingjpcgehgiiaaW.PrintWords Go.Proofs.YtingjpcgehgiiaaW.PrintLast Go.Proofs.YtingjpcgehgiiaaW.PrintMore
set_option linter.unusedVariables false
set_option linter.unusedSimpArgs false
theorem wf_le {z : Int} (h : (Lit.int .i64 z).wf = true) : z ≤ 9223372036854775807 := by
  have := h
  simp [Lit.wf] at this
  omega
theorem CurveConvex_walk {W : World} (x0 : S24) (a0 : Option Addr) (cap0 : Nat) (c0 : x0.f2.length ≤ cap0) (hr0 : Kd.C (Kd.int .i64) W a0 x0.f2.length x0.f2) (w0 : okC x0) (x1 : S24) (a1 : Option Addr) (cap1 : Nat) (c1 : x1.f2.length ≤ cap1) (hr1 : Kd.C (Kd.int .i64) W a1 x1.f2.length x1.f2) (w1 : okC x1) (a2 : Int) (b2 : (Lit.int .i64 a2).wf = true) (a3 : Int) (b3 : (Lit.int .i64 a3).wf = true) (a4 : Int) (b4 : (Lit.int .i64 a4).wf = true) (a5 : Int) (b5 : (Lit.int .i64 a5).wf = true) :
    Calls Try.prog 13 #[.agg #[.int .i64 x0.f0, .int .i64 x0.f1, .slice a0 x0.f2.length cap0], .agg #[.int .i64 x1.f0, .int .i64 x1.f1, .slice a1 x1.f2.length cap1], .int .i64 a2, .int .i64 a3, .int .i64 a4, .int .i64 a5] W fun e w' => e = .returned (.bool true) ∧ Below W.heap.size W w' := by
  obtain ⟨k, h⟩ := CurveConvex_pure x0 x1 a2 a3 a4 a5 (wf_le b5)
  exact kimberlitelaw03_CurveConvex.calls k _ _ _ _ x0.f2 _ _ _ _ x1.f2 a2 a3 a4 a5 true W hr0 c0 hr1 c1 h
end Go.Proofs.Ytingjpcgehgiiaa.Pr
end
section
namespace Go.Proofs.Ytingjpcgehgiiaa.curveConvex
open Go.ChangeShapes Go.WideShapes Go.ChangeAt Go.RowKit Go.Proofs.Ytingjpcgehgiiaa.Pr
set_option linter.unusedVariables false
theorem own : ownKnob Try.prog.godebug = none := by kernel_rfl
theorem laidOut : laidOutB Try.prog = true := by kernel_rfl
set_option maxRecDepth 100000 in
theorem lifted (os : Os) (started : os.Started) (H : Type) (enc : TypeId × Value → H) :
    ReturnsInHanded {} Try.checked os 13 .any (Rows.curveConvexSpec.pre6 enc Try.prog Try.f13 Rows.curveConvexRow.domain false) (Rows.curveConvexSpec.post enc Try.prog Try.f13 false true false false) := by
  refine returnsInHanded_of_change (C := Try.checked) own started (by kernel_rfl) Try.func13
    (ChangeSpec.witness6 (enc := enc) (C := Try.checked) false ⟨#[], #[.agg #[.int .i64 0, .int .i64 0, .slice none 0 0], .agg #[.int .i64 0, .int .i64 0, .slice none 0 0], .int .i64 0, .int .i64 0, .int .i64 0, .int .i64 0], []⟩ 8 (by kernel_rfl) (by kernel_rfl) (by kernel_rfl) (by kernel_rfl)) ?_
  intro W base args ds gs before hval0 hW hcnd _
  have hval : ∀ (j : Nat) t v, Try.f13.params[j]? = some t → args[j]? = some v → Value.okWide Try.prog W .any base t v := hval0
  have hW' := hW
  obtain ⟨p, q, hA0, hV, rfl, hfz, hnd⟩ := hW
  have hA : DataW.TrodAll enc Try.prog W 0 (fun _ => true) true Try.f13.params.toList args.toList ds p := hA0
  rw [Try.params13] at hA hval
  obtain ⟨v0, vs0, d0, ds0, p0, q0, hargs, rfl, rfl, h0, r0⟩ := trodAll_cons hA
  obtain ⟨v1, vs1, d1, ds1, p1, q1, rfl, rfl, rfl, h1, r1⟩ := trodAll_cons r0
  obtain ⟨v2, vs2, d2, ds2, p2, q2, rfl, rfl, rfl, h2, r2⟩ := trodAll_cons r1
  obtain ⟨v3, vs3, d3, ds3, p3, q3, rfl, rfl, rfl, h3, r3⟩ := trodAll_cons r2
  obtain ⟨v4, vs4, d4, ds4, p4, q4, rfl, rfl, rfl, h4, r4⟩ := trodAll_cons r3
  obtain ⟨v5, vs5, d5, ds5, p5, q5, rfl, rfl, rfl, h5, r5⟩ := trodAll_cons r4
  obtain ⟨rfl, rfl, rfl⟩ := trodAll_nil r5
  obtain rfl : args = #[v0, v1, v2, v3, v4, v5] := by cases args; simp_all
  obtain ⟨rfl, rfl⟩ := trodVars_none hV
  have k0 := h0
  have lt0 : ∀ x ∈ p0, x.block < W.heap.size := by obtain ⟨m, hm⟩ := k0; exact DataW.trod_lt m _ _ _ hm
  obtain ⟨x0, a0, cap0, rfl, c0, hr0, w0⟩ := open_curve (hval 0 24 v0 rfl rfl) h0
  have k1 := h1
  have lt1 : ∀ x ∈ p1, x.block < W.heap.size := by obtain ⟨m, hm⟩ := k1; exact DataW.trod_lt m _ _ _ hm
  obtain ⟨x1, a1, cap1, rfl, c1, hr1, w1⟩ := open_curve (hval 1 24 v1 rfl rfl) h1
  obtain ⟨a2, rfl, rfl, rfl, w2⟩ := open_int Try.underlying3 (hval 2 3 v2 rfl rfl) h2
  obtain ⟨a3, rfl, rfl, rfl, w3⟩ := open_int Try.underlying3 (hval 3 3 v3 rfl rfl) h3
  obtain ⟨a4, rfl, rfl, rfl, w4⟩ := open_int Try.underlying3 (hval 4 3 v4 rfl rfl) h4
  obtain ⟨a5, rfl, rfl, rfl, w5⟩ := open_int Try.underlying3 (hval 5 3 v5 rfl rfl) h5
  clear hA0 hval0
  try simp only [List.append_nil] at hW'
  refine (CurveConvex_walk x0 a0 cap0 c0 hr0 w0 x1 a1 cap1 c1 hr1 w1 a2 w2 a3 w3 a4 w4 a5 w5).mono fun e W' ⟨he, bel⟩ => ?_
  subst he
  exact ⟨_, rfl, _, _, _, [], _, [], hW', trodAll_mk1 (shut_bool Try.underlying4 _), (trodAll_cons_mk (Below.trod laidOut (by kernel_rfl) (of_decide_eq_true (by kernel_rfl)) k0 bel lt0) (trodAll_cons_mk (Below.trod laidOut (by kernel_rfl) (of_decide_eq_true (by kernel_rfl)) k1 bel lt1) (trodAll_cons_mk (shut_int Try.underlying3 w2) (trodAll_cons_mk (shut_int Try.underlying3 w3) (trodAll_cons_mk (shut_int Try.underlying3 w4) (trodAll_cons_mk (shut_int Try.underlying3 w5) trodAll_mk0)))))), rfl, bel.frame _, fun h => by cases h⟩
theorem over : Rows.curveConvexRow.holds Try.pinned (OpenSpec.ofChange Rows.curveConvexSpec) :=
  OpenClaim.holds_of_wide 13 Try.f13 rfl rfl rfl rfl rfl rfl rfl ⟨rfl, rfl, rfl, rfl, rfl⟩ rfl rfl rfl rfl rfl (by kernel_rfl) Try.func13 (by kernel_rfl)
    (of_decide_eq_true (by kernel_rfl)) (by unfold Func.isWrapper; first | (rw [if_pos (by decide +kernel)]; kernel_rfl) | (rw [if_neg (by decide +kernel)]; exact ⟨rfl, rfl⟩))
    (fun os started H enc _ => lifted os started H enc)
theorem proved : Rows.CurveConvexSaid := over
end Go.Proofs.Ytingjpcgehgiiaa.curveConvex
namespace Go.Proofs.Ytingjpcgehgiiaa
/-- The row, under a short name, for the claim. -/
theorem curveConvex_holds : Rows.CurveConvexSaid := curveConvex.proved
end Go.Proofs.Ytingjpcgehgiiaa
end
