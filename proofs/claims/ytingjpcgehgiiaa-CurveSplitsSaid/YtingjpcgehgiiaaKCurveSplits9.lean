/- What the proof of the law needs, trimmed and merged by wip/pack.py out of the texts YtingjpcgehgiiaaRmt, YtingjpcgehgiiaaArgs, YtingjpcgehgiiaaLit, YtingjpcgehgiiaaExtAlive, YtingjpcgehgiiaaWalkCurveSplits, YtingjpcgehgiiaaRowCurveSplits. No condition. -/
import Derived.Deep.Slices
import Derived.Deep.Fields
import Derived.ChangeSame
import Derived.Lib.SmallJoins
import Derived.OpenShut
import Derived.Test.YtingjpcgehgiiaaRows
import Derived.WalkKit
import Derived.ProofKit
import Derived.ShutString
import Derived.ChangeOld
import Derived.Below
import Derived.SizedLaws
import Derived.Test.YtingjpcgehgiiaaKCurveSplits0
import Derived.Test.YtingjpcgehgiiaaKCurveSplits1
import Derived.Test.YtingjpcgehgiiaaKCurveSplits2
import Derived.Test.YtingjpcgehgiiaaKCurveSplits3
import Derived.Test.YtingjpcgehgiiaaKCurveSplits4
import Derived.Test.YtingjpcgehgiiaaKCurveSplits5
import Derived.Test.YtingjpcgehgiiaaKCurveSplits6
import Derived.Test.YtingjpcgehgiiaaKCurveSplits7
import Derived.Test.YtingjpcgehgiiaaKCurveSplits8
section
namespace Go.Proofs.Ytingjpcgehgiiaa.Pr
open Go.RowKit Go.Proofs.YtingjpcgehgiiaaW.PrintWords Go.Proofs.YtingjpcgehgiiaaW.PrintLast Go.Proofs.YtingjpcgehgiiaaW.PrintMore
set_option linter.unusedVariables false
set_option linter.unusedSimpArgs false
theorem low_one {a b : S24} {x y : Int} (h : Low a b x) (k : Low a b y) : x = y := by
  have h1 := h.low y k.ina k.inb
  have h2 := k.low x h.ina h.inb
  by_cases hxy : x < y
  · have := k.first x h.ina h.inb hxy
    omega
  · by_cases hyx : y < x
    · have := h.first y k.ina k.inb hyx
      omega
    · omega
theorem rmeet_end (a b : S24) (va : Vc a) (vb : Vc b) {hi x y : Int} (hx : inC a x) (hx2 : inC b x) (hy : ¬y ≤ hi) :
    Ev (fun k => kimberliteref03_Meet.l0 k hi x y a.f0 (outL a (a.f2.length + 1)) b.f0 (outL b (b.f2.length + 1))) (two a b x, x, meetP a b x, 0) := by
  have wa := in_bound va hx
  have b1 := val_bound va x
  have b2 := val_bound vb x
  have b3 := val_bound va (x - 1)
  have b4 := val_bound vb (x + 1)
  have e1 : wrap64 (valC a x + valC b x) = two a b x := by unfold wrap64 two; omega
  have j3 : ∀ q : Int, Ev (fun k => kimberliteref03_Meet.j3 k x q a.f0 (outL a (a.f2.length + 1)) b.f0 (outL b (b.f2.length + 1))) (two a b x, x, q, 0) := fun q => by
    refine Ev.step (f := fun _ => some (two a b x, x, q, 0)) (fun k => ?_) (Ev.now _)
    simp only [kimberliteref03_Meet.j3]
    rw [row_value va hx, Option.bind_some, row_value vb hx2, Option.bind_some, e1]
  have j2 : ∀ q : Int, -1048576 ≤ q → Ev (fun k => kimberliteref03_Meet.j2 k x q a.f0 (outL a (a.f2.length + 1)) b.f0 (outL b (b.f2.length + 1))) (two a b x, x, max q (-(hiPr (b, x))), 0) := fun q hq => by
    by_cases h1 : x < b.f0 + (b.f2.length : Int)
    · have e2 : wrap64 (x + 1) = x + 1 := by unfold wrap64; omega
      have hn := val_next hx2.1 h1
      have e3 : wrap64 (valC b x - valC b (x + 1)) = -(hiPr (b, x)) := by unfold wrap64; omega
      have hx3 : inC b (x + 1) := ⟨by have := hx2.1; omega, by omega⟩
      refine Ev.step (fun k => ?_) (j3 _)
      simp only [kimberliteref03_Meet.j2]
      rw [row_to vb, Option.bind_some, if_pos h1, row_value vb hx2, Option.bind_some, e2, row_value vb hx3, Option.bind_some, e3, mx_eq]
    · have e3 : max q (-(hiPr (b, x))) = q := by
        have : hiPr (b, x) = 1048576 := by
          unfold hiPr
          simp only
          rw [if_neg (by omega)]
        rw [this]
        omega
      rw [e3]
      refine Ev.step (fun k => ?_) (j3 _)
      simp only [kimberliteref03_Meet.j2]
      rw [row_to vb, Option.bind_some, if_neg h1]
  by_cases h1 : x > a.f0
  · have e2 : wrap64 (x - 1) = x - 1 := by unfold wrap64; omega
    have hn := val_prev h1 hx.2
    have r := lo_range (goodC_of va hx)
    have e3 : wrap64 (valC a x - valC a (x - 1)) = loPr (a, x) := by unfold wrap64; omega
    have hx3 : inC a (x - 1) := ⟨by omega, by have := hx.2; omega⟩
    have e4 : mx (-1048576) (loPr (a, x)) = loPr (a, x) := by rw [mx_eq]; omega
    refine Ev.step (fun k => ?_) (j2 (loPr (a, x)) r.1)
    simp only [kimberliteref03_Meet.l0]
    rw [if_neg hy, if_pos h1, row_value va hx, Option.bind_some, e2, row_value va hx3, Option.bind_some, e3, e4]
  · have e3 : loPr (a, x) = -1048576 := by
      unfold loPr
      simp only
      rw [if_neg (by omega)]
    have h := j2 (-1048576) (Int.le_refl _)
    unfold meetP
    rw [e3]
    refine Ev.step (fun k => ?_) h
    simp only [kimberliteref03_Meet.l0]
    rw [if_neg hy, if_neg h1]
theorem rmeet_step (a b : S24) (va : Vc a) (vb : Vc b) {hi x y : Int} (hx : inC a x) (hx2 : inC b x) (hy1 : inC a y) (hy2 : inC b y) (hy : y ≤ hi) (k : Nat) :
    kimberliteref03_Meet.l0 (k + 1) hi x y a.f0 (outL a (a.f2.length + 1)) b.f0 (outL b (b.f2.length + 1)) = kimberliteref03_Meet.l0 k hi (if two a b y < two a b x then y else x) (y + 1) a.f0 (outL a (a.f2.length + 1)) b.f0 (outL b (b.f2.length + 1)) := by
  have w := in_bound va hy1
  have b1 := val_bound va x
  have b2 := val_bound vb x
  have b3 := val_bound va y
  have b4 := val_bound vb y
  have e1 : wrap64 (valC a x + valC b x) = two a b x := by unfold wrap64 two; omega
  have e2 : wrap64 (valC a y + valC b y) = two a b y := by unfold wrap64 two; omega
  have e3 : wrap64 (y + 1) = y + 1 := by unfold wrap64; omega
  simp only [kimberliteref03_Meet.l0]
  rw [if_pos hy, row_value va hx, row_value vb hx2, row_value va hy1, row_value vb hy2]
  simp only [Option.bind_some]
  rw [e1, e2, e3]
  split <;> rfl
theorem rmeet_loop {a b : S24} (va : Vc a) (vb : Vc b) {lo hi : Int} (hlo : ∀ z, inC a z ∧ inC b z ↔ lo ≤ z ∧ z ≤ hi) :
    ∀ (n : Nat) (x y : Int), y + (n : Int) = hi + 1 → lo ≤ x → x ≤ hi → lo ≤ y → (∀ z, lo ≤ z → z < y → two a b x ≤ two a b z ∧ (z < x → two a b x < two a b z)) → (x < y ∨ x = y) →
    ∃ x', Low a b x' ∧ Ev (fun k => kimberliteref03_Meet.l0 k hi x y a.f0 (outL a (a.f2.length + 1)) b.f0 (outL b (b.f2.length + 1))) (two a b x', x', meetP a b x', 0)
  | 0, x, y, hn, h1, h2, h3, h4, h5 => by
    obtain ⟨hxa, hxb⟩ := (hlo x).2 ⟨h1, h2⟩
    refine ⟨x, ⟨hxa, hxb, fun z za zb => ?_, fun z za zb hz => ?_⟩, rmeet_end a b va vb hxa hxb (by omega)⟩
    · obtain ⟨z1, z2⟩ := (hlo z).1 ⟨za, zb⟩
      exact (h4 z z1 (by omega)).1
    · obtain ⟨z1, z2⟩ := (hlo z).1 ⟨za, zb⟩
      exact (h4 z z1 (by omega)).2 hz
  | n + 1, x, y, hn, h1, h2, h3, h4, h5 => by
    obtain ⟨hxa, hxb⟩ := (hlo x).2 ⟨h1, h2⟩
    obtain ⟨hya, hyb⟩ := (hlo y).2 ⟨h3, by omega⟩
    obtain ⟨r, hr, he⟩ := rmeet_loop va vb hlo n (if two a b y < two a b x then y else x) (y + 1) (by omega) (by split <;> omega) (by split <;> omega) (by omega) (fun z z1 z2 => by
      by_cases hz : z = y
      · subst hz
        split
        · exact ⟨Int.le_refl _, fun h => by omega⟩
        · exact ⟨by omega, fun h => by omega⟩
      · obtain ⟨q1, q2⟩ := h4 z z1 (by omega)
        split
        · exact ⟨by omega, fun h => by omega⟩
        · exact ⟨q1, q2⟩) (by split <;> omega)
    exact ⟨r, hr, Ev.step (rmeet_step a b va vb hxa hxb hya hyb (by omega)) he⟩
/-- Both answer alike. -/
theorem meet_two (a b : S24) : ∃ R : Int × Int × Int × Int, Ev (fun k => curve_Meet.f k a.f0 a.f1 a.f2 b.f0 b.f1 b.f2) R ∧ Ev (fun k => kimberliteref03_Meet.f k a.f0 a.f1 a.f2 b.f0 b.f1 b.f2) R := by
  have bad : Ev (fun k => kimberliteref03_Meet.j0 k true a.f0 a.f1 a.f2 b.f0 b.f1 b.f2) (0, 0, 0, 2) := by
    refine Ev.step (f := fun _ => some (0, 0, 0, 2)) (fun k => ?_) (Ev.now _)
    simp only [kimberliteref03_Meet.j0]
    rw [if_pos trivial]
  have bad2 : Ev (fun k => curve_Meet.j0 k true a.f0 a.f1 a.f2 b.f0 b.f1 b.f2) (0, 0, 0, 2) := by
    refine Ev.step (f := fun _ => some (0, 0, 0, 2)) (fun k => ?_) (Ev.now _)
    simp only [curve_Meet.j0]
    rw [if_pos trivial]
  by_cases va : Vc a
  · by_cases vb : Vc b
    · have first : ∀ R, Ev (fun k => (kimberliteref03_Out.f k a.f0 a.f1 a.f2).bind fun bt388 => ((kimberliteref03_Out.f k b.f0 b.f1 b.f2).bind fun bt392 => ((kimberliteref03_Row_To.f bt388.1 bt388.2).bind fun t398 => ((kimberliteref03_Row_To.f bt392.1 bt392.2).bind fun t399 => (if (mx bt388.1 bt392.1) > (mn t398 t399) then (some (0, 0, 0, 6)) else (kimberliteref03_Meet.l0 k (mn t398 t399) (mx bt388.1 bt392.1) (mx bt388.1 bt392.1) bt388.1 bt388.2 bt392.1 bt392.2)))))) R → Ev (fun k => kimberliteref03_Meet.f k a.f0 a.f1 a.f2 b.f0 b.f1 b.f2) R := fun R h => by
        unfold kimberliteref03_Meet.f
        refine Ev.bind (rvalid_ev a) (Ev.congr (fun k => if_pos (decide_eq_true va)) (Ev.bind (rvalid_ev b) ?_))
        rw [decide_eq_true vb]
        refine Ev.step (fun k => ?_) h
        simp only [kimberliteref03_Meet.j0]
        rw [if_neg (by simp)]
      by_cases hle : mx a.f0 b.f0 ≤ mn (a.f0 + (a.f2.length : Int)) (b.f0 + (b.f2.length : Int))
      · rcases meet_ev a b with ⟨n, hn, he⟩ | ⟨_, _, x, hx, he⟩
        · exfalso
          obtain ⟨r, ⟨x, hx, rfl⟩, he2⟩ := meet_loop va vb (lo := mx a.f0 b.f0) (hi := mn (a.f0 + (a.f2.length : Int)) (b.f0 + (b.f2.length : Int))) (fun z => by rw [mx_eq, mn_eq]; unfold inC; omega) (fun r => ∃ x, Low a b x ∧ r = (two a b x, x, meetP a b x, 0)) (fun x hx => ⟨x, hx, rfl⟩)
            (mn (a.f0 + (a.f2.length : Int)) (b.f0 + (b.f2.length : Int)) - mx a.f0 b.f0 + 1).toNat (mx a.f0 b.f0) (mx a.f0 b.f0) (by omega) (Int.le_refl _) hle (Int.le_refl _) (fun z z1 z2 => by omega) (.inr rfl)
          have he3 : Ev (fun k => curve_Meet.f k a.f0 a.f1 a.f2 b.f0 b.f1 b.f2) (two a b x, x, meetP a b x, 0) := by
            refine Ev.congr (f := fun k => curve_Meet.j0 k false a.f0 a.f1 a.f2 b.f0 b.f1 b.f2) (fun k => ?_) (Ev.step (fun k => ?_) he2)
            · unfold curve_Meet.f
              rw [valid_f a, Option.bind_some, if_pos (decide_eq_true va), valid_f b, Option.bind_some, decide_eq_true vb]
              rfl
            · simp only [curve_Meet.j0]
              rw [if_neg (by simp), to_f va, to_f vb, Option.bind_some, Option.bind_some, if_neg (by omega)]
          obtain ⟨k1, h1⟩ := he
          obtain ⟨k2, h2⟩ := he3
          have e1 := h1 (max k1 k2) (by omega)
          have e2 := h2 (max k1 k2) (by omega)
          rw [e1] at e2
          injection e2 with e2
          injection e2 with _ e2
          injection e2 with _ e2
          injection e2 with _ e2
          exact hn e2
        · obtain ⟨x', hx', he'⟩ := rmeet_loop va vb (lo := mx a.f0 b.f0) (hi := mn (a.f0 + (a.f2.length : Int)) (b.f0 + (b.f2.length : Int))) (fun z => by rw [mx_eq, mn_eq]; unfold inC; omega)
            (mn (a.f0 + (a.f2.length : Int)) (b.f0 + (b.f2.length : Int)) - mx a.f0 b.f0 + 1).toNat (mx a.f0 b.f0) (mx a.f0 b.f0) (by omega) (Int.le_refl _) hle (Int.le_refl _) (fun z z1 z2 => by omega) (.inr rfl)
          obtain rfl := low_one hx hx'
          refine ⟨_, he, first _ (Ev.bind (out_ev va) (Ev.bind (out_ev vb) ?_))⟩
          simp only
          rw [row_to va, row_to vb]
          exact Ev.congr (fun k => Option.bind_some _ _) (Ev.congr (fun k => Option.bind_some _ _) (Ev.congr (fun k => if_neg (by omega)) he'))
      · refine ⟨(0, 0, 0, 6), ?_, first _ (Ev.bind (out_ev va) (Ev.bind (out_ev vb) ?_))⟩
        · refine Ev.congr (f := fun k => curve_Meet.j0 k false a.f0 a.f1 a.f2 b.f0 b.f1 b.f2) (fun k => ?_) (Ev.step (f := fun _ => some (0, 0, 0, 6)) (fun k => ?_) (Ev.now _))
          · unfold curve_Meet.f
            rw [valid_f a, Option.bind_some, if_pos (decide_eq_true va), valid_f b, Option.bind_some, decide_eq_true vb]
            rfl
          · simp only [curve_Meet.j0]
            rw [if_neg (by simp), to_f va, to_f vb, Option.bind_some, Option.bind_some, if_pos (by omega)]
        · simp only
          rw [row_to va, row_to vb]
          exact Ev.congr (fun k => Option.bind_some _ _) (Ev.congr (fun k => Option.bind_some _ _) (Ev.congr (f := fun _ => some (0, 0, 0, 6)) (fun k => if_pos (by omega)) (Ev.now _)))
    · refine ⟨(0, 0, 0, 2), ?_, ?_⟩
      · refine Ev.congr (fun k => ?_) bad2
        unfold curve_Meet.f
        rw [valid_f a, Option.bind_some, if_pos (decide_eq_true va), valid_f b, Option.bind_some, decide_eq_false vb]
        rfl
      · unfold kimberliteref03_Meet.f
        refine Ev.bind (rvalid_ev a) (Ev.congr (fun k => if_pos (decide_eq_true va)) (Ev.bind (rvalid_ev b) ?_))
        rw [decide_eq_false vb]
        exact bad
  · refine ⟨(0, 0, 0, 2), ?_, ?_⟩
    · refine Ev.congr (fun k => ?_) bad2
      unfold curve_Meet.f
      rw [valid_f a, Option.bind_some, decide_eq_false va, if_neg (by simp)]
    · unfold kimberliteref03_Meet.f
      refine Ev.bind (rvalid_ev a) ?_
      exact Ev.congr (fun k => if_neg (by rw [decide_eq_true_eq]; exact va)) bad
end Go.Proofs.Ytingjpcgehgiiaa.Pr
end
section
namespace Go.Proofs.Ytingjpcgehgiiaa.Pr
open Go.RowKit Go.ChangeShapes Go.WideShapes Go.Deep Go.Joins Go.Proofs.YtingjpcgehgiiaaW.PrintWords Go.Proofs.YtingjpcgehgiiaaW.PrintLast Go.Proofs.YtingjpcgehgiiaaW.PrintMore
set_option linter.unusedVariables false
set_option linter.unusedSimpArgs false
section
variable {H : Type} {enc : TypeId × Value → H} {W : World}
/-- All numbers of a curve are int64s. -/
def okC (x : S24) : Prop := (Lit.int .i64 x.f0).wf = true ∧ (Lit.int .i64 x.f1).wf = true ∧ ∀ s ∈ x.f2, (Lit.int .i64 s).wf = true
set_option maxRecDepth 100000 in
theorem nums_fuel {fuel : Nat} {v : Value} {y : DataW H × List MemPlace} (hf : DataW.trod enc Try.prog W 0 (fun _ => true) true fuel 22 [v] = some y) :
    ∃ (a : Option Addr) (cap : Nat) (l : List Int), v = .slice a l.length cap ∧ l.length ≤ cap ∧ Kd.C (Kd.int .i64) W a l.length l ∧ ∀ x ∈ l, (Lit.int .i64 x).wf = true := by
  rcases open_slice Try.underlying22 hf with ⟨hcs, _⟩ | ⟨ad, len, cap, m, n, D, Pl, hcs, _, hl, hm, hmm, _, hi⟩
  · simp at hcs
    subst hcs
    exact ⟨none, 0, [], rfl, by simp, ⟨rfl, by simp, fun h => absurd h (by simp)⟩, fun x hx => absurd hx (by simp)⟩
  · simp at hcs
    subst hcs
    have hC : Try.prog.cellsOf 3 = 1 := by kernel_rfl
    have key : ∀ i, i < len → ∃ x : Int, (Lit.int .i64 x).wf = true ∧ W.cell? (ad.add i) = some (.int .i64 x) := by
      intro i hil
      obtain ⟨cs', hc, ht'⟩ := hi i (by rw [hmm]; simp; omega)
      rw [hC] at hc
      obtain ⟨_, hcl, hat⟩ := World.cells?_some hc
      match cs', hcl with
      | [c0], _ =>
        obtain ⟨a0, e0, _, w0⟩ := DataW.trod_int Try.underlying3 ht'
        simp at e0
        subst e0
        have h0 := hat 0 (by omega)
        rw [Deep.add_add] at h0
        exact ⟨a0, w0, by simpa using h0⟩
    obtain ⟨f, hf⟩ := choose_lt key
    refine ⟨some ad, cap, (List.range len).map f, by simp, by simpa using hl, ⟨by simp, by simp; simp only [maxLen] at hm; omega, fun _ => ⟨ad, rfl, fun j x hj => ?_⟩⟩, ?_⟩
    · obtain ⟨hjl, hx⟩ := List.getElem?_eq_some_iff.1 hj
      have hjl' : j < len := by simpa using hjl
      simp at hx
      subst hx
      obtain ⟨_, h0⟩ := hf j hjl'
      refine ⟨[.int .i64 (f j)], rfl, rfl, fun i u hu => ?_⟩
      match i, hu with
      | 0, hu => simp at hu; subst hu; simpa [show (Kd.int .i64).sz = 1 from rfl] using h0
      | i + 1, hu => simp at hu
    · intro x hx
      obtain ⟨j, hj, rfl⟩ := List.mem_map.1 hx
      exact (hf j (by simpa using hj)).1
set_option maxRecDepth 100000 in
theorem open_curves {a : Option Addr} {len cap : Nat} {d : DataW H} {p : List MemPlace} (h : DataW.Trod enc Try.prog W 0 (fun _ => true) true 34 (.slice a len cap) d p) :
    ∃ l : List S24, l.length = len ∧ l.length ≤ cap ∧ Kd.C k24 W a l.length l ∧ ∀ x ∈ l, okC x := by
  obtain ⟨fuel, hf⟩ := h
  rcases open_slice Try.underlying34 hf with ⟨hcs, _⟩ | ⟨ad, len', cap', m, n, D, Pl, hcs, _, hl, hm, hmm, _, hi⟩
  · simp [Value.cells] at hcs
    obtain ⟨rfl, rfl, rfl⟩ := hcs
    exact ⟨[], rfl, by simp, ⟨rfl, by simp, fun h => absurd h (by simp)⟩, fun x hx => absurd hx (by simp)⟩
  · simp [Value.cells] at hcs
    obtain ⟨rfl, rfl, rfl⟩ := hcs
    have hC : Try.prog.cellsOf 24 = 3 := by kernel_rfl
    have key : ∀ i, i < len → ∃ x : S24, okC x ∧ ∃ cs, k24.K W x cs ∧ cs.length = 3 ∧ ∀ j u, cs[j]? = some u → W.cell? (ad.add (i * 3 + j)) = some u := by
      intro i hil
      obtain ⟨cs', hc, ht'⟩ := hi i (by rw [hmm]; simp; omega)
      rw [hC] at hc
      obtain ⟨ys, n', hn', hy, hlen, hyl, hfd⟩ := DataW.trod_struct Try.underlying24 ht'
      obtain ⟨_, hcl, hat⟩ := World.cells?_some hc
      match cs', hcl with
      | [c0, c1, c2], _ =>
        have k3 : Try.prog.cellsOf 3 = 1 := by kernel_rfl
        have k22 : Try.prog.cellsOf 22 = 1 := by kernel_rfl
        obtain ⟨y0, hy0⟩ : ∃ y, ys[0]? = some y := ⟨_, List.getElem?_eq_getElem (by rw [hyl]; decide)⟩
        obtain ⟨y1, hy1⟩ : ∃ y, ys[1]? = some y := ⟨_, List.getElem?_eq_getElem (by rw [hyl]; decide)⟩
        obtain ⟨y2, hy2⟩ : ∃ y, ys[2]? = some y := ⟨_, List.getElem?_eq_getElem (by rw [hyl]; decide)⟩
        have g0 := hfd 0 _ rfl
        have g1 := hfd 1 _ rfl
        have g2 := hfd 2 _ rfl
        dsimp only [List.getElem_toArray, List.getElem_cons_zero, List.getElem_cons_succ] at g0 g1 g2
        rw [k3, hy0] at g0
        rw [k3, hy1] at g1
        rw [k22, hy2] at g2
        simp only [List.drop_zero, List.drop_succ_cons, List.take_succ_cons, List.take_zero] at g0 g1 g2
        obtain ⟨a0, e0, _, w0⟩ := DataW.trod_int Try.underlying3 g0
        obtain ⟨a1, e1, _, w1⟩ := DataW.trod_int Try.underlying3 g1
        obtain ⟨a2, cap2, l2, e2, h1, h2, h3⟩ := nums_fuel g2
        simp at e0 e1
        subst e0 e1 e2
        refine ⟨⟨a0, a1, l2⟩, ⟨w0, w1, h3⟩, _, k24_mk W ⟨a0, a1, l2⟩ h1 h2, rfl, fun j u hu => ?_⟩
        have hj : j < 3 := (List.getElem?_eq_some_iff.1 hu).1
        have h := hat j (by omega)
        rw [Deep.add_add] at h
        rw [h]
        exact hu
    obtain ⟨f, hf⟩ := @choose_lt S24 ⟨z24⟩ _ _ key
    refine ⟨(List.range len).map f, by simp, by simpa using hl, ⟨by simp, by simp; simp only [maxLen] at hm; omega, fun _ => ⟨ad, rfl, fun j x hj => ?_⟩⟩, ?_⟩
    · obtain ⟨hjl, hx⟩ := List.getElem?_eq_some_iff.1 hj
      have hjl' : j < len := by simpa using hjl
      simp at hx
      subst hx
      obtain ⟨_, cs, hk, hcl, hcell⟩ := hf j hjl'
      exact ⟨cs, hcl, hk, hcell⟩
    · intro x hx
      obtain ⟨j, hj, rfl⟩ := List.mem_map.1 hx
      exact (hf j (by simpa using hj)).1
end
end Go.Proofs.Ytingjpcgehgiiaa.Pr
end
section
namespace Go.Proofs.Ytingjpcgehgiiaa.Pr
open Go.RowKit Go.Proofs.YtingjpcgehgiiaaW.PrintWords Go.Proofs.YtingjpcgehgiiaaW.PrintLast Go.Proofs.YtingjpcgehgiiaaW.PrintMore
set_option linter.unusedVariables false
set_option linter.unusedSimpArgs false
theorem C_lit {W : World} {g : Nat} (xs : List Int) (h : W.heap[g]? = some (.cells ((xs.map (Value.int .i64)).toArray) 3 (0, 0))) (hl : xs.length ≤ 9223372036854775807) : Kd.C (Kd.int .i64) W (some ⟨g, 0, none⟩) xs.length xs := by
  refine ⟨rfl, hl, fun _ => ⟨_, rfl, fun j p hp => ⟨[.int .i64 p], rfl, rfl, fun i u hu => ?_⟩⟩⟩
  rcases i with _ | i
  · simp at hu
    subst hu
    have hc := blk_cell h j
    have e : (⟨g, 0, none⟩ : Addr).add (j * 1 + 0) = ⟨g, j, none⟩ := by simp [Addr.add]; intro h; exact h.symm
    show W.cell? ((⟨g, 0, none⟩ : Addr).add (j * 1 + 0)) = _
    rw [e, hc]
    simp [hp]
  · simp at hu
/-- A literal of curves: their cells one behind the other. -/
theorem C_lit24 {W : World} {g : Nat} (c1 c2 : S24) (A1 A2 : Option Addr) (n1 n2 : Nat) (h : W.heap[g]? = some (.cells #[.int .i64 c1.f0, .int .i64 c1.f1, .slice A1 c1.f2.length n1, .int .i64 c2.f0, .int .i64 c2.f1, .slice A2 c2.f2.length n2] 24 (0, 0)))
    (l1 : c1.f2.length ≤ n1) (l2 : c2.f2.length ≤ n2) (h1 : Kd.C (Kd.int .i64) W A1 c1.f2.length c1.f2) (h2 : Kd.C (Kd.int .i64) W A2 c2.f2.length c2.f2) : Kd.C k24 W (some ⟨g, 0, none⟩) 2 [c1, c2] := by
  refine ⟨rfl, by omega, fun _ => ⟨_, rfl, fun j p hp => ?_⟩⟩
  rcases j with _ | _ | j
  · simp at hp
    subst hp
    refine ⟨_, rfl, k24_mk W c1 l1 h1, fun i u hu => ?_⟩
    have hc := blk_cell h i
    have e : (⟨g, 0, none⟩ : Addr).add (0 * 3 + i) = ⟨g, i, none⟩ := by simp [Addr.add]; intro h; exact h.symm
    show W.cell? ((⟨g, 0, none⟩ : Addr).add (0 * 3 + i)) = _
    rw [e, hc]
    rcases i with _ | _ | _ | i
    · simpa using hu
    · simpa using hu
    · simpa using hu
    · simp at hu
  · simp at hp
    subst hp
    refine ⟨_, rfl, k24_mk W c2 l2 h2, fun i u hu => ?_⟩
    have hc := blk_cell h (3 + i)
    have e : (⟨g, 0, none⟩ : Addr).add ((0 + 1) * 3 + i) = ⟨g, 3 + i, none⟩ := by simp [Addr.add]
    show W.cell? ((⟨g, 0, none⟩ : Addr).add ((0 + 1) * 3 + i)) = _
    rw [e, hc]
    rcases i with _ | _ | _ | i
    · simpa using hu
    · simpa using hu
    · simpa using hu
    · simp at hu
  · simp at hp
end Go.Proofs.Ytingjpcgehgiiaa.Pr
end
section
namespace Go.Proofs.Ytingjpcgehgiiaa.Pr
open Go.RowKit Go.Shelf Go.Proofs.YtingjpcgehgiiaaW.PrintWords Go.Proofs.YtingjpcgehgiiaaW.PrintLast Go.Proofs.YtingjpcgehgiiaaW.PrintMore
set_option linter.unusedVariables false
set_option linter.unusedSimpArgs false
def kimberlitelaw03_alive.f : Option Bool := some true
theorem alive_join : curve_Join.f 0 0 [1, 3] 0 0 [2, 2] = some (0, 0, [1, 2, 2, 3], 0) := by
  have e : sortL ([1, 3] ++ [2, 2]) = [1, 2, 2, 3] := by simp [sortL, List.mergeSort, List.MergeSort.Internal.splitInTwo, List.merge]
  have e1 : validC 0 0 [1, 3] = true := by kernel_rfl
  have e2 : validC 0 0 [2, 2] = true := by kernel_rfl
  have e3 : validC 0 0 [1, 2, 2, 3] = true := by kernel_rfl
  have e4 : wrap64 (0 + 0) = 0 := by unfold wrap64; omega
  unfold curve_Join.f joinR
  rw [e, e1, e2, e4, e3]
  rfl
theorem alive_split (k : Nat) : curve_Split.f k [⟨0, 0, [1, 3]⟩, ⟨0, 0, [2, 2]⟩] 3 = some ([1, 2], 5, 2, 0) := by
  show some _ = _
  kernel_rfl
theorem alive_same1 : kimberlitelaw03_same.f 10 [1, 2, 2, 3] [1, 2, 2, 3] = some true := by kernel_rfl
theorem alive_same2 : kimberlitelaw03_same.f 10 [1, 2] [1, 2] = some true := by kernel_rfl
theorem alive_c1 (w3 : World) (Aj : Option Addr) (cj : Nat) (h1 : Kd.C (Kd.int .i64) w3 Aj 4 [1, 2, 2, 3]) (h2 : 4 ≤ cj) :
    Calls Try.prog 24 #[.slice Aj 4 cj, .slice (some ⟨w3.heap.size, 0, none⟩) 4 4] (w3.alloc (.cells #[.int .i64 1, .int .i64 2, .int .i64 2, .int .i64 3] 3)) fun e w' => e = .returned (.bool true) ∧ Drawn0 (w3.alloc (.cells #[.int .i64 1, .int .i64 2, .int .i64 2, .int .i64 3] 3)) w' :=
  kimberlitelaw03_same.calls 10 Aj cj [1, 2, 2, 3] (some ⟨w3.heap.size, 0, none⟩) 4 [1, 2, 2, 3] true _ (Kd.C_alloc h1 _) h2 (C_lit [1, 2, 2, 3] (blk_new w3 (.cells #[.int .i64 1, .int .i64 2, .int .i64 2, .int .i64 3] 3)) (by decide)) (by decide) alive_same1
theorem alive_c2 (As : Option Addr) (cs : Nat) (h2 : 2 ≤ cs) (w4 : World) (h1 : Kd.C (Kd.int .i64) w4 As 2 [1, 2]) :
    Calls Try.prog 24 #[.slice As 2 cs, .slice (some ⟨w4.heap.size, 0, none⟩) 2 2] (w4.alloc (.cells #[.int .i64 1, .int .i64 2] 3)) fun e w' => e = .returned (.bool true) ∧ Drawn0 (w4.alloc (.cells #[.int .i64 1, .int .i64 2] 3)) w' :=
  kimberlitelaw03_same.calls 10 As cs [1, 2] (some ⟨w4.heap.size, 0, none⟩) 2 [1, 2] true _ (Kd.C_alloc h1 _) h2 (C_lit [1, 2] (blk_new w4 (.cells #[.int .i64 1, .int .i64 2] 3)) (by decide)) (by decide) alive_same2
set_option maxHeartbeats 400000 in
set_option maxRecDepth 100000 in
theorem kimberlitelaw03_alive.calls (r : Bool) (w : World) (h : kimberlitelaw03_alive.f = some r) :
    Calls Try.prog 17 #[] w fun e w' => e = .returned (.bool r) ∧ Below w.heap.size w w' := by
  obtain rfl : true = r := Option.some.inj h
  have hu24 := Try.underlying24
  have A0 := C_lit [1, 3] (blk_new w (.cells #[.int .i64 1, .int .i64 3] 3)) (by decide)
  have B0 := blk_new (w.alloc (.cells #[.int .i64 1, .int .i64 3] 3)) (.cells #[.int .i64 2, .int .i64 2] 3)
  rw [World.size_alloc] at B0
  replace B0 := C_lit [2, 2] B0 (by decide)
  have HA := Aside0.mk A0
  have HB := Aside0.mk B0
  have C0 := blk_new ((w.alloc (.cells #[.int .i64 1, .int .i64 3] 3)).alloc (.cells #[.int .i64 2, .int .i64 2] 3)) (.cells #[.int .i64 0, .int .i64 0, .slice (some ⟨w.heap.size, 0, none⟩) 2 2] 24)
  have D0 := blk_new (((w.alloc (.cells #[.int .i64 1, .int .i64 3] 3)).alloc (.cells #[.int .i64 2, .int .i64 2] 3)).alloc (.cells #[.int .i64 0, .int .i64 0, .slice (some ⟨w.heap.size, 0, none⟩) 2 2] 24)) (.cells #[.int .i64 0, .int .i64 0, .slice (some ⟨w.heap.size + 1, 0, none⟩) 2 2] 24)
  rw [World.size_alloc, World.size_alloc] at C0
  rw [World.size_alloc, World.size_alloc, World.size_alloc] at D0
  replace C0 := blk_alloc C0 (.cells #[.int .i64 0, .int .i64 0, .slice (some ⟨w.heap.size + 1, 0, none⟩) 2 2] 24)
  have HL4 := Aside0.mk (below_alloc (below_alloc (below_alloc (below_alloc (Below.refl w.heap.size w) (.cells #[.int .i64 1, .int .i64 3] 3)) (.cells #[.int .i64 2, .int .i64 2] 3)) (.cells #[.int .i64 0, .int .i64 0, .slice (some ⟨w.heap.size, 0, none⟩) 2 2] 24)) (.cells #[.int .i64 0, .int .i64 0, .slice (some ⟨w.heap.size + 1, 0, none⟩) 2 2] 24))
  have HC := Aside0.mk C0
  have HD := Aside0.mk D0
  clear A0 B0 C0 D0
  go_enter Try.func17, Try.ntmps17
  go_upto_region 3 with (go_at_call 14; (refine (curve_Join.calls 0 0 _ _ [1, 3] 0 0 _ _ [2, 2] 0 0 [1, 2, 2, 3] 0 _ (Kd.C_alloc (Kd.C_alloc (Kd.C_alloc HA.out _) _) _) (by decide) (Kd.C_alloc (Kd.C_alloc HB.out _) _) (by decide) alive_join).mono ?_); rintro e w1 ⟨vj, rfl, hr1, hb1⟩; obtain ⟨Aj, cj, ej⟩ := Kd.R_slice hr1; subst ej; have HR1 := Aside0.mk hr1; have HB1 := Aside0.mk hb1; clear hr1 hb1)
  have K0 := blk_new w1 (.cells #[.int .i64 0, .int .i64 0, .slice Aj 4 cj] 24)
  have HR2 := Aside0.mk (Kd.C_alloc (Kd.R_reads' HR1.out).2.2 (.cells #[.int .i64 0, .int .i64 0, .slice Aj 4 cj] 24))
  have HRl := Aside0.mk (Kd.R_reads' HR1.out).2.1
  have HK := Aside0.mk K0
  have HC2 := Aside0.mk (blk_alloc (blk_below HC.out HB1.out) (.cells #[.int .i64 0, .int .i64 0, .slice Aj 4 cj] 24))
  have HD2 := Aside0.mk (blk_alloc (blk_below HD.out HB1.out) (.cells #[.int .i64 0, .int .i64 0, .slice Aj 4 cj] 24))
  have HA2 := Aside0.mk (Kd.C_alloc (Kd.C_below (Kd.C_alloc (Kd.C_alloc (Kd.C_alloc HA.out _) _) _) HB1.out) (.cells #[.int .i64 0, .int .i64 0, .slice Aj 4 cj] 24))
  have HBB2 := Aside0.mk (Kd.C_alloc (Kd.C_below (Kd.C_alloc (Kd.C_alloc HB.out _) _) HB1.out) (.cells #[.int .i64 0, .int .i64 0, .slice Aj 4 cj] 24))
  have HL5 := Aside0.mk (below_alloc (below_then HL4.out HL4.out.size HB1.out) (.cells #[.int .i64 0, .int .i64 0, .slice Aj 4 cj] 24))
  clear K0 HA HB HC HD HR1 HB1 HL4
  try simp only [Act.put, List.setIfInBounds_toArray, List.set_cons_zero, List.set_cons_succ]
  generalize w1.alloc (.cells #[.int .i64 0, .int .i64 0, .slice Aj 4 cj] 24) = w2 at HK HC2 HD2 HA2 HBB2 HL5 HR2 ⊢
  generalize w1.heap.size = g3 at HK ⊢
  generalize w.heap.size + 1 + 1 + 1 = gd at HD2 ⊢
  generalize w.heap.size + 1 + 1 = gc at HC2 ⊢
  generalize w.heap.size + 1 = gb at HD2 HBB2 ⊢
  have c0 : w2.cell? ⟨gc, 0, none⟩ = some (.int .i64 0) := (blk_cell HC2.out 0).trans rfl
  have c1 : w2.cell? ⟨gc, 1, none⟩ = some (.int .i64 0) := (blk_cell HC2.out 1).trans rfl
  have c2 : w2.cell? ⟨gc, 2, none⟩ = some (.slice (some ⟨w.heap.size, 0, none⟩) 2 2) := (blk_cell HC2.out 2).trans rfl
  have d0 : w2.cell? ⟨gd, 0, none⟩ = some (.int .i64 0) := (blk_cell HD2.out 0).trans rfl
  have d1 : w2.cell? ⟨gd, 1, none⟩ = some (.int .i64 0) := (blk_cell HD2.out 1).trans rfl
  have d2 : w2.cell? ⟨gd, 2, none⟩ = some (.slice (some ⟨gb, 0, none⟩) 2 2) := (blk_cell HD2.out 2).trans rfl
  go_upto_region 4 with (go_at_call 19; (refine (curve_Split.calls 0 _ _ [⟨0, 0, [1, 3]⟩, ⟨0, 0, [2, 2]⟩] 3 [1, 2] 5 2 0 _ (C_lit24 ⟨0, 0, [1, 3]⟩ ⟨0, 0, [2, 2]⟩ (some ⟨w.heap.size, 0, none⟩) (some ⟨gb, 0, none⟩) 2 2 (blk_new w2 _) (by decide) (by decide) (Kd.C_alloc HA2.out _) (Kd.C_alloc HBB2.out _)) (by decide) (alive_split 0)).mono ?_); rintro e w3 ⟨vs, rfl, hr3, hb3⟩; obtain ⟨As, cs, es⟩ := Kd.R_slice hr3; subst es; have HS := Aside0.mk (Kd.R_reads' hr3); have HB3 := Aside0.mk (below_then (below_alloc HL5.out _) (below_alloc HL5.out _).size hb3); have HR3 := Aside0.mk (Kd.C_below (Kd.C_alloc HR2.out _) hb3); have HK3 := Aside0.mk (blk_below (blk_alloc HK.out _) hb3); clear hr3 hb3)
  clear c0 c1 c2 d0 d1 d2 HK HC2 HD2 HA2 HBB2 HL5 HR2
  try simp only [Act.put, List.setIfInBounds_toArray, List.set_cons_zero, List.set_cons_succ]
  have c2 : w3.cell? ⟨g3, 2, none⟩ = some (.slice Aj 4 cj) := (blk_cell HK3.out 2).trans rfl
  have mixed : Try.prog.follows .mixedOrders = true := by kernel_rfl
  have HL1 := Aside0.mk (C_lit [1, 2, 2, 3] (blk_new w3 (.cells #[.int .i64 1, .int .i64 2, .int .i64 2, .int .i64 3] 3)) (by decide))
  have HLs := Aside0.mk (Kd.C_alloc HS.out.2.2 (.cells #[.int .i64 1, .int .i64 2, .int .i64 2, .int .i64 3] 3))
  have HB4 := Aside0.mk (below_alloc HB3.out (.cells #[.int .i64 1, .int .i64 2, .int .i64 2, .int .i64 3] 3))
  have HC1 := Aside0.mk (show Calls Try.prog 24 #[.slice Aj 4 cj, .slice (some ⟨w3.heap.size, 0, none⟩) 4 4] (w3.alloc (.cells #[.int .i64 1, .int .i64 2, .int .i64 2, .int .i64 3] 3)) fun e w' => e = .returned (.bool true) ∧ Drawn0 (w3.alloc (.cells #[.int .i64 1, .int .i64 2, .int .i64 2, .int .i64 3] 3)) w' from alive_c1 w3 Aj cj HR3.out HRl.out)
  have HC2 := Aside0.mk (alive_c2 As cs HS.out.2.1)
  clear HL1 HR3 HRl
  have HS2 := Aside0.mk HS.out.2.2
  clear HS
  go_wp2_with (first | (go_at_call 24; (with_reducible refine HC1.out.mono ?_); rintro e w4 ⟨rfl, hd⟩; have HB5 := Aside0.mk (below_then HB4.out HB4.out.size hd.below); have HS5 := Aside0.mk (Kd.C_below HLs.out hd.below); clear hd HC1) | (go_at_call 24; (with_reducible refine (HC2.out _ HS5.out).mono ?_); rintro e w5 ⟨rfl, hd⟩; have HB6 := Aside0.mk (below_then (below_alloc HB5.out _) (below_alloc HB5.out _).size hd.below); clear hd))
  go_ret
  exact ⟨rfl, HB6.out⟩
end Go.Proofs.Ytingjpcgehgiiaa.Pr
end
section
namespace Go.Proofs.Ytingjpcgehgiiaa.Pr
open Go.RowKit Go.Shelf Go.Proofs.YtingjpcgehgiiaaW.PrintWords Go.Proofs.YtingjpcgehgiiaaW.PrintLast Go.Proofs.YtingjpcgehgiiaaW.PrintMore
set_option linter.unusedVariables false
set_option linter.unusedSimpArgs false
theorem few_at (c : S24) : kimberlitelaw03_few.f c.f0 c.f1 c.f2 = some (decide (c.f2.length ≤ 100)) := by
  unfold kimberlitelaw03_few.f
  congr 1
  apply decide_eq_decide.2
  omega
theorem splitR_len (l : List S24) (a1 : Int) : (splitR l a1).1.length ≤ 8 := by
  unfold splitR
  by_cases h8 : 8 < l.length
  · rw [if_pos h8]; simp
  rw [if_neg h8]
  by_cases h0 : l.length = 0
  · rw [if_pos h0]; simp
  rw [if_neg h0]
  split
  · simp
  · unfold splitOk
    split
    · simp
    · split
      · simp
      · simp only
        rw [List.length_map, fillS_len]
        unfold mkSh
        rw [List.length_map]
        omega
theorem bcs_ {w w' : World} {a : Addr} {v : Value} (hb : Below w.heap.size w w') (h : w.cell? a = some v) : w'.cell? a = some v := (hb.cell (World.block_lt_of_cell? _ _ h)).trans h
set_option maxHeartbeats 2000000 in
set_option maxRecDepth 100000 in
theorem CurveSplits_walk {W : World} (a0 : Option Addr) (cap0 : Nat) (l0 : List S24) (c0 : l0.length ≤ cap0) (hr0 : Kd.C k24 W a0 l0.length l0) (w0 : ∀ s ∈ l0, okC s) (a1 : Int) (b1 : (Lit.int .i64 a1).wf = true) :
    Calls Try.prog 6 #[.slice a0 l0.length cap0, .int .i64 a1] W fun e w' => e = .returned (.bool true) ∧ Below W.heap.size W w' := by
  have hu24 := Try.underlying24
  have hu34 := Try.underlying34
  obtain ⟨⟨r1, r2, r3, r4⟩, hsp⟩ : ∃ r, splitR l0 a1 = r := ⟨_, rfl⟩
  have HSP := Aside0.mk (show curve_Split.f 0 l0 a1 = some (r1, r2, r3, r4) from congrArg some hsp)
  obtain ⟨kq, hrs⟩ := (rsplit_ev l0 a1).rounds
  rw [hsp] at hrs
  have HRS := Aside0.mk hrs
  have hlen := splitR_len l0 a1
  rw [hsp] at hlen
  obtain ⟨ks, hsm⟩ := (same_ev r1 (by have : r1.length ≤ 8 := hlen; omega)).rounds
  have HSM := Aside0.mk hsm
  have HR := Aside0.mk hr0
  have HC := Aside0.mk c0
  have q2 : (r2 != r2) = false := bne_self_eq_false r2
  have q3 : (r3 != r3) = false := bne_self_eq_false r3
  have q4 : (r4 != r4) = false := bne_self_eq_false r4
  clear b1 w0 hr0 c0 hsp hrs hlen hsm
  by_cases c3 : (l0.length : Int) > 20
  · have c3b0 : decide (20 < (l0.length : Int)) = true := decide_eq_true c3
    have c3b1 : decide (20 < l0.length) = true := decide_eq_true (by omega)
    clear c3
    go_enter Try.func6, Try.ntmps6
    go_wp2_with (go_at_call 17; (with_reducible refine (kimberlitelaw03_alive.calls true _ rfl).mono ?_); rintro e w1 ⟨rfl, hb⟩; have HB1 := Aside0.mk hb; clear hb)
    go_ret
    exact ⟨rfl, HB1.out⟩
  · have c3b0 : decide (20 < (l0.length : Int)) = false := decide_eq_false c3
    have c3b1 : decide (20 < l0.length) = false := decide_eq_false (by omega)
    have HL20 := Aside0.mk (show l0.length ≤ 20 by omega)
    clear c3
    go_enter Try.func6, Try.ntmps6
    go_wp2
    go_loopg [5, 6] l0.length (fun gg v5 v6 wr => ∃ i : Nat, i ≤ l0.length ∧ l0.length - i ≤ gg ∧ v6 = .int .i64 (i : Int) ∧ Aside0 (Kd.N k24 24 wr W.heap.size (fun _ => True) v5 (l0.take i)) ∧ Aside0 (Below W.heap.size W wr))
    case atStart => exact ⟨0, Nat.zero_le _, by omega, rfl, ⟨Kd.N_nil _ _ _ _ _⟩, ⟨Below.refl _ _⟩⟩
    case round =>
      obtain ⟨i, hi, hg, rfl, HO, HB⟩ := hrel
      have hi20 : i ≤ 20 := by have := HL20.out; omega
      by_cases hlt : i < l0.length
      · have hltz : (i : Int) < (l0.length : Int) := by omega
        have h0i : (0 : Int) ≤ (i : Int) := by omega
        obtain ⟨ad, A2, c2, e, hx0, hx1, hx2, hl2, hc2⟩ := at_T24 HR.out (i : Int) h0i hltz
        subst e
        have er : rd_T24 l0 (i : Int) = l0.getD i z24 := by unfold rd_T24; rw [Int.toNat_natCast]
        rw [er] at hx0 hx1 hx2 hl2 hc2
        rw [Int.toNat_natCast] at hx0 hx1 hx2
        have hts := Aside0.mk (take_snoc l0 i hlt)
        generalize l0.getD i z24 = y at hx0 hx1 hx2 hl2 hc2 hts
        clear er
        replace hx0 := bcs_ HB.out hx0
        replace hx1 := bcs_ HB.out hx1
        replace hx2 := bcs_ HB.out hx2
        have HLy := Aside0.mk hl2
        have HCy := Aside0.mk hc2
        have hf := few_at y
        clear hl2 hc2
        by_cases h100 : y.f2.length ≤ 100
        · rw [decide_eq_true h100] at hf
          have HF := Aside0.mk hf
          clear hf h100
          go_wp2_with (first | (go_at_call 22; (with_reducible refine (kimberlitelaw03_few.calls _ _ _ _ y.f2 _ _ (Kd.C_below HCy.out HB.out) HLy.out HF.out).mono ?_); rintro e w3 ⟨rfl, hb⟩; have HB3 := Aside0.mk (below_step HB.out hb); have HO3 := Aside0.mk (Kd.N_below HO.out hb); replace hx0 := bcs_ hb hx0; replace hx1 := bcs_ hb hx1; replace hx2 := bcs_ hb hx2; have FS := Aside0.mk (Kd.F_below (Kd.C_F (Kd.heap_int .i64) HCy.out) HB3.out); clear hb HB HO) | ((with_reducible refine gate_builtin (b := .append) (xs := #[.tmp 41, .tmp 46]) rfl ?_); (try (refine gate_guard (by rfl) ?_; dsimp only)); at_builtin; refine Kd.N_append k24 (w0 := W) W.heap.size rfl (.tmp 41) (.tmp 46) 34 24 (.agg #[(.int .i64 0), (.int .i64 0), (.slice none 0 0)]) 40 rfl Try.underlying34 info24 rfl (by decide) (by omega) u5 (l0.take i) y [.int .i64 y.f0, .int .i64 y.f1, .slice A2 y.f2.length c2] (fun _ => True) (fun k_ => k_ < W.heap.size) rfl rfl ?aP ?aK ?aF ?aO ?aB ?aS ?aL ?_; (case aP => exact k24_mkF _ _ y HLy.out FS.out); (case aK => exact fun k hk => ⟨trivial, fun e => absurd (Kd.N_base HO3.out k e.symm) (by omega)⟩); (case aF => exact (fun _ _ => trivial)); (case aO => exact HO3.out); (case aB => exact HB3.out); (case aS => exact (below_size HB3.out)); (case aL => have := HL20.out; rw [List.length_take]; omega); intro v5 w4 ho hb hg4 hat; rw [← hts.out] at ho; have HO4 := Aside0.mk ho; have HB4 := Aside0.mk hb; clear ho hb hg4 hat HO3 HB3))
          go_roundg (l0.length - (i + 1))
          case measure => omega
          case rel => exact ⟨i + 1, by omega, by omega, by go_num, HO4, HB4⟩
        · rw [decide_eq_false h100] at hf
          have HF := Aside0.mk hf
          clear hf h100
          go_wp2_with (first | (go_at_call 22; (with_reducible refine (kimberlitelaw03_few.calls _ _ _ _ y.f2 _ _ (Kd.C_below HCy.out HB.out) HLy.out HF.out).mono ?_); rintro e w3 ⟨rfl, hb⟩; have HB3 := Aside0.mk (below_step HB.out hb); clear hb HB) | (go_at_call 17; (with_reducible refine (kimberlitelaw03_alive.calls true _ rfl).mono ?_); rintro e w4 ⟨rfl, hb⟩; have HB4 := Aside0.mk (below_step HB3.out hb); clear hb))
          go_ret
          exact ⟨rfl, HB4.out⟩
      · have hltz : ¬(i : Int) < (l0.length : Int) := by omega
        have ht : l0.take i = l0 := List.take_of_length_le (by omega)
        rw [ht] at HO
        obtain ⟨Ao, co, eo⟩ := Kd.N_slice HO.out
        subst eo
        go_wp2_with (first | (go_at_call 19; (with_reducible refine (curve_Split.calls 0 _ _ l0 a1 r1 r2 r3 r4 _ (Kd.N_reads' HO.out).2.2 (Kd.N_reads' HO.out).2.1 HSP.out).mono ?_); rintro e w1 ⟨vs, rfl, hr3, hb⟩; have HB1 := Aside0.mk (below_step HB.out hb); obtain ⟨Ax, cx, ex⟩ := Kd.R_slice hr3; subst ex; have RX := Aside0.mk hr3; clear hb HB hr3) | (go_at_call 23; (with_reducible refine (kimberliteref03_Split.calls kq _ _ l0 a1 r1 r2 r3 r4 _ (Kd.C_below HR.out HB1.out) HC.out HRS.out).mono ?_); rintro e w2 ⟨vt, rfl, hr4, hb⟩; have HB2 := Aside0.mk (below_step HB1.out hb); obtain ⟨Ay, cy, ey⟩ := Kd.R_slice hr4; subst ey; have RX2 := Aside0.mk (Kd.R_below RX.out hb); have RY := Aside0.mk hr4; clear hb HB1 hr4 RX) | (go_at_call 24; (with_reducible refine (kimberlitelaw03_same.calls ks _ _ r1 _ _ r1 true _ (Kd.R_reads' RX2.out).2.2 (Kd.R_reads' RX2.out).2.1 (Kd.R_reads' RY.out).2.2 (Kd.R_reads' RY.out).2.1 HSM.out).mono ?_); rintro e w3 ⟨rfl, hd⟩; have HB3 := Aside0.mk (below_step HB2.out hd.below); clear hd HB2 RX2 RY))
        go_loopg [15] l0.length (fun gg v15 wr => ∃ j : Nat, j ≤ l0.length ∧ l0.length - j ≤ gg ∧ v15 = .int .i64 (j : Int) ∧ Aside0 (Below W.heap.size W wr))
        case atStart => exact ⟨0, Nat.zero_le _, by omega, rfl, HB3⟩
        case round =>
          obtain ⟨j, hj, hg, rfl, HB⟩ := hrel
          have hj20 : j ≤ 20 := by have := HL20.out; omega
          have h0j : (0 : Int) ≤ (j : Int) := by omega
          have hw1 : wrap64 ((j : Int) + 1) = ((j + 1 : Nat) : Int) := by unfold wrap64; omega
          by_cases hlt : j + 1 < l0.length
          · have hjz : (j : Int) < (l0.length : Int) := by omega
            have hlz : ((j + 1 : Nat) : Int) < (l0.length : Int) := by omega
            have h1j : (0 : Int) ≤ ((j + 1 : Nat) : Int) := by omega
            obtain ⟨ad, A2, c2, e, hx0, hx1, hx2, hl2, hc2⟩ := at_T24 HR.out (j : Int) h0j hjz
            subst e
            obtain ⟨ad2, A3, c4, e, hy0, hy1, hy2, hl3, hc3⟩ := at_T24 HR.out ((j + 1 : Nat) : Int) h1j hlz
            obtain rfl : ad = ad2 := Option.some.inj e
            have er : rd_T24 l0 (j : Int) = l0.getD j z24 := by unfold rd_T24; rw [Int.toNat_natCast]
            have er2 : rd_T24 l0 ((j + 1 : Nat) : Int) = l0.getD (j + 1) z24 := by unfold rd_T24; rw [Int.toNat_natCast]
            rw [er] at hx0 hx1 hx2 hl2 hc2
            rw [er2] at hy0 hy1 hy2 hl3 hc3
            rw [Int.toNat_natCast] at hx0 hx1 hx2 hy0 hy1 hy2
            clear er er2 e
            generalize l0.getD j z24 = y at hx0 hx1 hx2 hl2 hc2
            generalize l0.getD (j + 1) z24 = z at hy0 hy1 hy2 hl3 hc3
            replace hx0 := bcs_ HB.out hx0
            replace hx1 := bcs_ HB.out hx1
            replace hx2 := bcs_ HB.out hx2
            replace hy0 := bcs_ HB.out hy0
            replace hy1 := bcs_ HB.out hy1
            replace hy2 := bcs_ HB.out hy2
            have HLy := Aside0.mk hl2
            have HCy := Aside0.mk hc2
            have HLz := Aside0.mk hl3
            have HCz := Aside0.mk hc3
            obtain ⟨⟨m1, m2, m3, m4⟩, hm, hrm⟩ := meet_two y z
            obtain ⟨km, hm⟩ := hm.rounds
            obtain ⟨kr, hrm⟩ := hrm.rounds
            have HM := Aside0.mk hm
            have HRM := Aside0.mk hrm
            have p1 : (m1 != m1) = false := bne_self_eq_false m1
            have p2 : (m2 != m2) = false := bne_self_eq_false m2
            have p3 : (m3 != m3) = false := bne_self_eq_false m3
            have p4 : (m4 != m4) = false := bne_self_eq_false m4
            clear hl2 hc2 hl3 hc3 hm hrm
            have gc0_ := fun p_ : Bel wr => Calls.bel_of (p := p_) (curve_Meet.calls km _ _ _ _ y.f2 _ _ _ _ z.f2 m1 m2 m3 m4 _ (Kd.C_below (Kd.C_below HCy.out HB.out) (Bel.h p_)) HLy.out (Kd.C_below (Kd.C_below HCz.out HB.out) (Bel.h p_)) HLz.out HM.out)
            have gz0_ : ∀ p : Bel wr, p.W.cell? (ad.add (j * 3)) = some (.int .i64 y.f0) := Bel.cell hx0
            have gz1_ : ∀ p : Bel wr, p.W.cell? ⟨(ad.add (j * 3)).block, (ad.add (j * 3)).off + 1, none⟩ = some (.int .i64 y.f1) := Bel.cell hx1
            have gz2_ : ∀ p : Bel wr, p.W.cell? ⟨(ad.add (j * 3)).block, (ad.add (j * 3)).off + 2, none⟩ = some (.slice A2 y.f2.length c2) := Bel.cell hx2
            have gz3_ : ∀ p : Bel wr, p.W.cell? (ad.add ((j + 1) * 3)) = some (.int .i64 z.f0) := Bel.cell hy0
            have gz4_ : ∀ p : Bel wr, p.W.cell? ⟨(ad.add ((j + 1) * 3)).block, (ad.add ((j + 1) * 3)).off + 1, none⟩ = some (.int .i64 z.f1) := Bel.cell hy1
            have gz5_ : ∀ p : Bel wr, p.W.cell? ⟨(ad.add ((j + 1) * 3)).block, (ad.add ((j + 1) * 3)).off + 2, none⟩ = some (.slice A3 z.f2.length c4) := Bel.cell hy2
            have mixed_ : Try.prog.follows .mixedOrders = true := by kernel_rfl
            go_upto_region 17 with (fail)
            refine wp_region_bel mixed_ (by kernel_rfl) ?_
            repeat (go_big_quiet_step (fail))
            go_big_quiet_step ((go_at_call 25; with_reducible exact gc0_ _))
            repeat (go_big_quiet_step (fail))
            refine wpQuiet_nil ?_
            intro wq hw'
            obtain ⟨pq, hw''⟩ := hw'
            have hq := Bel.h pq
            rw [← hw''] at hq
            clear hw'' pq gc0_ gz0_ gz1_ gz2_ gz3_ gz4_ gz5_
            replace hx0 := bcs_ hq hx0
            replace hx1 := bcs_ hq hx1
            replace hx2 := bcs_ hq hx2
            replace hy0 := bcs_ hq hy0
            replace hy1 := bcs_ hq hy1
            replace hy2 := bcs_ hq hy2
            replace HB := Aside0.mk (below_step HB.out hq)
            clear hq
            have gc0_ := fun p_ : Bel wq => Calls.bel_of (p := p_) (kimberliteref03_Meet.calls kr _ _ _ _ y.f2 _ _ _ _ z.f2 m1 m2 m3 m4 _ (Kd.C_below (Kd.C_below HCy.out HB.out) (Bel.h p_)) HLy.out (Kd.C_below (Kd.C_below HCz.out HB.out) (Bel.h p_)) HLz.out HRM.out)
            have gz0_ : ∀ p : Bel wq, p.W.cell? (ad.add (j * 3)) = some (.int .i64 y.f0) := Bel.cell hx0
            have gz1_ : ∀ p : Bel wq, p.W.cell? ⟨(ad.add (j * 3)).block, (ad.add (j * 3)).off + 1, none⟩ = some (.int .i64 y.f1) := Bel.cell hx1
            have gz2_ : ∀ p : Bel wq, p.W.cell? ⟨(ad.add (j * 3)).block, (ad.add (j * 3)).off + 2, none⟩ = some (.slice A2 y.f2.length c2) := Bel.cell hx2
            have gz3_ : ∀ p : Bel wq, p.W.cell? (ad.add ((j + 1) * 3)) = some (.int .i64 z.f0) := Bel.cell hy0
            have gz4_ : ∀ p : Bel wq, p.W.cell? ⟨(ad.add ((j + 1) * 3)).block, (ad.add ((j + 1) * 3)).off + 1, none⟩ = some (.int .i64 z.f1) := Bel.cell hy1
            have gz5_ : ∀ p : Bel wq, p.W.cell? ⟨(ad.add ((j + 1) * 3)).block, (ad.add ((j + 1) * 3)).off + 2, none⟩ = some (.slice A3 z.f2.length c4) := Bel.cell hy2
            go_upto_region 18 with (fail)
            refine wp_region_bel mixed_ (by kernel_rfl) ?_
            repeat (go_big_quiet_step (fail))
            go_big_quiet_step ((go_at_call 26; with_reducible exact gc0_ _))
            repeat (go_big_quiet_step (fail))
            refine wpQuiet_nil ?_
            intro wq2 hw'
            obtain ⟨pq, hw''⟩ := hw'
            have hq := Bel.h pq
            rw [← hw''] at hq
            clear hw'' pq gc0_ gz0_ gz1_ gz2_ gz3_ gz4_ gz5_
            replace HB := Aside0.mk (below_step HB.out hq)
            clear hq
            go_wp2
            go_roundg (l0.length - (j + 1))
            case measure => omega
            case rel => exact ⟨j + 1, by omega, by omega, by go_num, HB⟩
          · have hlz : ¬((j + 1 : Nat) : Int) < (l0.length : Int) := by omega
            go_wp2_with (go_at_call 17; (with_reducible refine (kimberlitelaw03_alive.calls true _ rfl).mono ?_); rintro e w4 ⟨rfl, hb⟩; have HB4 := Aside0.mk (below_step HB.out hb); clear hb)
            go_ret
            exact ⟨rfl, HB4.out⟩
end Go.Proofs.Ytingjpcgehgiiaa.Pr
end
section
namespace Go.Proofs.Ytingjpcgehgiiaa.curveSplits
open Go.ChangeShapes Go.WideShapes Go.ChangeAt Go.RowKit Go.Proofs.Ytingjpcgehgiiaa.Pr
set_option linter.unusedVariables false
theorem own : ownKnob Try.prog.godebug = none := by kernel_rfl
theorem laidOut : laidOutB Try.prog = true := by kernel_rfl
set_option maxRecDepth 100000 in
theorem lifted (os : Os) (started : os.Started) (H : Type) (enc : TypeId × Value → H) :
    ReturnsInHanded {} Try.checked os 6 .any (Rows.curveSplitsSpec.pre6 enc Try.prog Try.f6 Rows.curveSplitsRow.domain false) (Rows.curveSplitsSpec.post enc Try.prog Try.f6 false true false false) := by
  refine returnsInHanded_of_change (C := Try.checked) own started (by kernel_rfl) Try.func6
    (ChangeSpec.witness6 (enc := enc) (C := Try.checked) false ⟨#[], #[.slice none 0 0, .int .i64 0], []⟩ 8 (by kernel_rfl) (by kernel_rfl) (by kernel_rfl) (by kernel_rfl)) ?_
  intro W base args ds gs before hval0 hW hcnd _
  have hval : ∀ (j : Nat) t v, Try.f6.params[j]? = some t → args[j]? = some v → Value.okWide Try.prog W .any base t v := hval0
  have hW' := hW
  obtain ⟨p, q, hA0, hV, rfl, hfz, hnd⟩ := hW
  have hA : DataW.TrodAll enc Try.prog W 0 (fun _ => true) true Try.f6.params.toList args.toList ds p := hA0
  rw [Try.params6] at hA hval
  obtain ⟨v0, vs0, d0, ds0, p0, q0, hargs, rfl, rfl, h0, r0⟩ := trodAll_cons hA
  obtain ⟨v1, vs1, d1, ds1, p1, q1, rfl, rfl, rfl, h1, r1⟩ := trodAll_cons r0
  obtain ⟨rfl, rfl, rfl⟩ := trodAll_nil r1
  obtain rfl : args = #[v0, v1] := by cases args; simp_all
  obtain ⟨rfl, rfl⟩ := trodVars_none hV
  have k0 := h0
  have lt0 : ∀ x ∈ p0, x.block < W.heap.size := by obtain ⟨m, hm⟩ := k0; exact DataW.trod_lt m _ _ _ hm
  obtain ⟨a0, len0, cap0, rfl⟩ := okWide_slice Try.underlying34 (hval 0 34 v0 rfl rfl)
  obtain ⟨l0, rfl, c0, hr0, w0⟩ := open_curves h0
  obtain ⟨a1, rfl, rfl, rfl, w1⟩ := open_int Try.underlying3 (hval 1 3 v1 rfl rfl) h1
  clear hA0 hval0
  try simp only [List.append_nil] at hW'
  refine (CurveSplits_walk a0 cap0 l0 c0 hr0 w0 a1 w1).mono fun e W' ⟨he, bel⟩ => ?_
  subst he
  exact ⟨_, rfl, _, _, _, [], _, [], hW', trodAll_mk1 (shut_bool Try.underlying4 _), (trodAll_cons_mk (Below.trod laidOut (by kernel_rfl) (of_decide_eq_true (by kernel_rfl)) k0 bel lt0) (trodAll_cons_mk (shut_int Try.underlying3 w1) trodAll_mk0)), rfl, bel.frame _, fun h => by cases h⟩
theorem over : Rows.curveSplitsRow.holds Try.pinned (OpenSpec.ofChange Rows.curveSplitsSpec) :=
  OpenClaim.holds_of_wide 6 Try.f6 rfl rfl rfl rfl rfl rfl rfl ⟨rfl, rfl, rfl, rfl, rfl⟩ rfl rfl rfl rfl rfl (by kernel_rfl) Try.func6 (by kernel_rfl)
    (of_decide_eq_true (by kernel_rfl)) (by unfold Func.isWrapper; first | (rw [if_pos (by decide +kernel)]; kernel_rfl) | (rw [if_neg (by decide +kernel)]; exact ⟨rfl, rfl⟩))
    (fun os started H enc _ => lifted os started H enc)
theorem proved : Rows.CurveSplitsSaid := over
end Go.Proofs.Ytingjpcgehgiiaa.curveSplits
namespace Go.Proofs.Ytingjpcgehgiiaa
/-- The row, under a short name, for the claim. -/
theorem curveSplits_holds : Rows.CurveSplitsSaid := curveSplits.proved
end Go.Proofs.Ytingjpcgehgiiaa
end
