/- What the proof of the law needs, trimmed and merged by wip/pack.py out of the texts YtingjpcgehgiiaaMee. No condition. -/
import Derived.Test.YtingjpcgehgiiaaKCurveSplits0
import Derived.Test.YtingjpcgehgiiaaKCurveSplits1
import Derived.Test.YtingjpcgehgiiaaKCurveSplits2
import Derived.Test.YtingjpcgehgiiaaKCurveSplits3
import Derived.Test.YtingjpcgehgiiaaKCurveSplits4
section
namespace Go.Proofs.Ytingjpcgehgiiaa.Pr
open Go.RowKit Go.Proofs.YtingjpcgehgiiaaW.PrintWords Go.Proofs.YtingjpcgehgiiaaW.PrintLast Go.Proofs.YtingjpcgehgiiaaW.PrintMore
set_option linter.unusedVariables false
set_option linter.unusedSimpArgs false
theorem goodC_of {c : S24} {x : Int} (h : Vc c) (hx : inC c x) : GoodC (c, x) := ⟨h, hx.1, hx.2⟩
theorem dr_ge {p : S24 × Int} (h : GoodC p) {t : Int} (ht : t ∈ dr p) : hiPr p ≤ t := by
  obtain ⟨d1, d2⟩ := dr_head h ht
  unfold hiPr
  rw [if_pos (by omega)]
  exact d2
theorem hi_mem {p : S24 × Int} (h : GoodC p) (h0 : p.2 - p.1.f0 < (p.1.f2.length : Int)) : hiPr p ∈ dr p := by
  obtain ⟨_, o1, o2⟩ := good_off h
  unfold hiPr dr
  rw [if_pos h0]
  have e : p.2 - p.1.f0 = (((p.2 - p.1.f0).toNat : Nat) : Int) := by omega
  rw [e, Int.toNat_natCast]
  exact rd_mem_drop (Nat.le_refl _) (by omega)
theorem lo_range {p : S24 × Int} (h : GoodC p) : -1048576 ≤ loPr p ∧ loPr p ≤ 1048576 := by
  by_cases h0 : 0 < p.2 - p.1.f0
  · obtain ⟨_, _, _, _, _, _, hb⟩ := vc_parts (good_vc h)
    exact hb _ (List.mem_of_mem_take (lo_mem h h0))
  · unfold loPr
    rw [if_neg h0]
    omega
theorem hi_range {p : S24 × Int} (h : GoodC p) : -1048576 ≤ hiPr p ∧ hiPr p ≤ 1048576 := by
  by_cases h0 : p.2 - p.1.f0 < (p.1.f2.length : Int)
  · obtain ⟨_, _, _, _, _, _, hb⟩ := vc_parts (good_vc h)
    exact hb _ (List.mem_of_mem_drop (hi_mem h h0))
  · unfold hiPr
    rw [if_neg h0]
    omega
theorem lo_hi {p : S24 × Int} (h : GoodC p) : loPr p ≤ hiPr p := by
  obtain ⟨_, _, _, _, _, hs, _⟩ := vc_parts (good_vc h)
  obtain ⟨_, o1, o2⟩ := good_off h
  by_cases h0 : 0 < p.2 - p.1.f0
  · by_cases h1 : p.2 - p.1.f0 < (p.1.f2.length : Int)
    · unfold loPr hiPr
      rw [if_pos h0, if_pos h1]
      obtain ⟨k, hk⟩ := Int.eq_ofNat_of_zero_le o1
      have e : p.2 - p.1.f0 - 1 = ((k - 1 : Nat) : Int) := by omega
      rw [e, hk]
      exact sorted_rd hs (by omega) (by omega)
    · have := (lo_range h).2
      unfold hiPr
      rw [if_neg h1]
      exact this
  · have := (hi_range h).1
    unfold loPr
    rw [if_neg h0]
    exact this
theorem val_next {c : S24} {x : Int} (h1 : c.f0 ≤ x) (h2 : x < c.f0 + (c.f2.length : Int)) : valC c (x + 1) = valC c x + hiPr (c, x) := by
  obtain ⟨k, hk⟩ := Int.eq_ofNat_of_zero_le (show 0 ≤ x - c.f0 by omega)
  have e1 : x = c.f0 + (k : Int) := by omega
  have h := val_succ c k (by omega)
  have e2 : c.f0 + (k : Int) + 1 = c.f0 + ((k + 1 : Nat) : Int) := by omega
  have e3 : hiPr (c, c.f0 + (k : Int)) = rd c.f2 (k : Int) := by
    unfold hiPr
    simp only
    have e4 : c.f0 + (k : Int) - c.f0 = (k : Int) := by omega
    rw [e4, if_pos (by omega)]
  rw [e1, e2, h, e3]
theorem val_prev {c : S24} {x : Int} (h1 : c.f0 < x) (h2 : x ≤ c.f0 + (c.f2.length : Int)) : valC c x = valC c (x - 1) + loPr (c, x) := by
  have h := val_next (c := c) (x := x - 1) (by omega) (by omega)
  rw [show x - 1 + 1 = x by omega] at h
  have e : hiPr (c, x - 1) = loPr (c, x) := by
    unfold hiPr loPr
    simp only
    rw [if_pos (by omega), if_pos (by omega), show x - 1 - c.f0 = x - c.f0 - 1 by omega]
  rw [h, e]
/-- The sum of two curves. -/
def two (a b : S24) (z : Int) : Int := valC a z + valC b z
/-- The first number where the sum is least. -/
structure Low (a b : S24) (x : Int) : Prop where
  ina : inC a x
  inb : inC b x
  low : ∀ z, inC a z → inC b z → two a b x ≤ two a b z
  first : ∀ z, inC a z → inC b z → z < x → two a b x < two a b z
def meetP (a b : S24) (x : Int) : Int := max (loPr (a, x)) (-(hiPr (b, x)))
theorem Low.cross {a b : S24} {x : Int} (va : Vc a) (vb : Vc b) (h : Low a b x) : 0 ≤ hiPr (a, x) + hiPr (b, x) ∧ loPr (a, x) + loPr (b, x) ≤ 0 := by
  have ga := goodC_of va h.ina
  have gb := goodC_of vb h.inb
  obtain ⟨a1, a2⟩ := h.ina
  obtain ⟨b1, b2⟩ := h.inb
  have ra := hi_range ga
  have rb := hi_range gb
  have la := lo_range ga
  have lb := lo_range gb
  constructor
  · by_cases h1 : x < a.f0 + (a.f2.length : Int)
    · by_cases h2 : x < b.f0 + (b.f2.length : Int)
      · have h3 := h.low (x + 1) ⟨by omega, by omega⟩ ⟨by omega, by omega⟩
        unfold two at h3
        rw [val_next a1 h1, val_next b1 h2] at h3
        omega
      · have : hiPr (b, x) = 1048576 := by unfold hiPr; simp only; rw [if_neg (by omega)]
        omega
    · have : hiPr (a, x) = 1048576 := by unfold hiPr; simp only; rw [if_neg (by omega)]
      omega
  · by_cases h1 : a.f0 < x
    · by_cases h2 : b.f0 < x
      · have h3 := h.low (x - 1) ⟨by omega, by omega⟩ ⟨by omega, by omega⟩
        unfold two at h3
        rw [val_prev (c := a) h1 a2, val_prev (c := b) h2 b2] at h3
        omega
      · have : loPr (b, x) = -1048576 := by unfold loPr; simp only; rw [if_neg (by omega)]
        omega
    · have : loPr (a, x) = -1048576 := by unfold loPr; simp only; rw [if_neg (by omega)]
      omega
/-- At the price of the meeting both curves are greatest there. -/
theorem Low.tight {a b : S24} {x : Int} (va : Vc a) (vb : Vc b) (h : Low a b x) : -1048576 ≤ meetP a b x ∧ meetP a b x ≤ 1048576 ∧ meetP a b x * x - valC a x = gC a (meetP a b x) ∧ -meetP a b x * x - valC b x = gC b (-meetP a b x) := by
  have ga := goodC_of va h.ina
  have gb := goodC_of vb h.inb
  obtain ⟨c1, c2⟩ := h.cross va vb
  have ra := hi_range ga
  have rb := hi_range gb
  have la := lo_range ga
  have lb := lo_range gb
  have ha := lo_hi ga
  have hb := lo_hi gb
  have p1 : loPr (a, x) ≤ meetP a b x := by unfold meetP; omega
  have p2 : meetP a b x ≤ hiPr (a, x) := by unfold meetP; omega
  have p3 : loPr (b, x) ≤ -meetP a b x := by unfold meetP; omega
  have p4 : -meetP a b x ≤ hiPr (b, x) := by unfold meetP; omega
  refine ⟨by omega, by omega, young_eq h.ina (fun s hs => ?_) (fun s hs => ?_), young_eq h.inb (fun s hs => ?_) (fun s hs => ?_)⟩
  · have := tk_le (p := (a, x)) ga hs; omega
  · have := dr_ge (p := (a, x)) ga hs; omega
  · have := tk_le (p := (b, x)) gb hs; omega
  · have := dr_ge (p := (b, x)) gb hs; omega
/-- One less is no price there. -/
theorem Low.least {a b : S24} {x : Int} (va : Vc a) (vb : Vc b) (h : Low a b x) (hp : -1048576 < meetP a b x) : ¬((meetP a b x - 1) * x - valC a x = gC a (meetP a b x - 1) ∧ (1 - meetP a b x) * x - valC b x = gC b (1 - meetP a b x)) := by
  rintro ⟨h1, h2⟩
  have ga := goodC_of va h.ina
  have gb := goodC_of vb h.inb
  by_cases hc : meetP a b x = loPr (a, x)
  · have h0 : 0 < x - a.f0 := by
      apply Classical.byContradiction
      intro hn
      have : loPr (a, x) = -1048576 := by unfold loPr; simp only; rw [if_neg hn]
      omega
    have := (young_conv h.ina h1).1 _ (lo_mem ga h0)
    omega
  · have hc2 : meetP a b x = -(hiPr (b, x)) := by unfold meetP at hc ⊢; omega
    have h0 : x - b.f0 < (b.f2.length : Int) := by
      apply Classical.byContradiction
      intro hn
      have : hiPr (b, x) = 1048576 := by unfold hiPr; simp only; rw [if_neg hn]
      omega
    have := (young_conv h.inb h2).2 _ (hi_mem gb h0)
    omega
theorem meet_end (a b : S24) (va : Vc a) (vb : Vc b) {hi x y : Int} (hx : inC a x) (hx2 : inC b x) (hy : ¬y ≤ hi) (k : Nat) :
    curve_Meet.l0 (k + 2) hi x y a.f0 a.f1 a.f2 b.f0 b.f1 b.f2 = some (two a b x, x, meetP a b x, 0) := by
  have pa := prices_good (goodC_of va hx) k
  have pb := prices_good (goodC_of vb hx2) k
  have b1 := val_bound va x
  have b2 := val_bound vb x
  have r := hi_range (goodC_of vb hx2)
  have e1 : wrap64 (valC a x + valC b x) = two a b x := by unfold wrap64 two; omega
  have e2 : mx (loPr (a, x)) (wrap64 (-(hiPr (b, x)))) = meetP a b x := by
    rw [mx_eq]
    unfold meetP wrap64
    omega
  simp only [curve_Meet.l0]
  rw [if_neg hy, show k + 1 = k + 1 from rfl, pa, pb, at_val va hx, at_val vb hx2]
  simp only [Option.bind_some]
  rw [e1, e2]
theorem meet_step (a b : S24) (va : Vc a) (vb : Vc b) {hi x y : Int} (hx : inC a x) (hx2 : inC b x) (hy1 : inC a y) (hy2 : inC b y) (hy : y ≤ hi) (k : Nat) :
    curve_Meet.l0 (k + 1) hi x y a.f0 a.f1 a.f2 b.f0 b.f1 b.f2 = curve_Meet.l0 k hi (if two a b y < two a b x then y else x) (y + 1) a.f0 a.f1 a.f2 b.f0 b.f1 b.f2 := by
  have w := in_bound va hy1
  have b1 := val_bound va x
  have b2 := val_bound vb x
  have b3 := val_bound va y
  have b4 := val_bound vb y
  have e1 : wrap64 (valC a x + valC b x) = two a b x := by unfold wrap64 two; omega
  have e2 : wrap64 (valC a y + valC b y) = two a b y := by unfold wrap64 two; omega
  have e3 : wrap64 (y + 1) = y + 1 := by unfold wrap64; omega
  simp only [curve_Meet.l0]
  rw [if_pos hy, at_val va hx, at_val vb hx2, at_val va hy1, at_val vb hy2]
  simp only [Option.bind_some]
  rw [e1, e2, e3]
  split <;> rfl
theorem meet_loop {a b : S24} (va : Vc a) (vb : Vc b) {lo hi : Int} (hlo : ∀ z, inC a z ∧ inC b z ↔ lo ≤ z ∧ z ≤ hi) (R : Int × Int × Int × Int → Prop) (hR : ∀ x, Low a b x → R (two a b x, x, meetP a b x, 0)) :
    ∀ (n : Nat) (x y : Int), y + (n : Int) = hi + 1 → lo ≤ x → x ≤ hi → lo ≤ y → (∀ z, lo ≤ z → z < y → two a b x ≤ two a b z ∧ (z < x → two a b x < two a b z)) → (x < y ∨ x = y) →
    ∃ r, R r ∧ Ev (fun k => curve_Meet.l0 k hi x y a.f0 a.f1 a.f2 b.f0 b.f1 b.f2) r
  | 0, x, y, hn, h1, h2, h3, h4, h5 => by
    obtain ⟨hxa, hxb⟩ := (hlo x).2 ⟨h1, h2⟩
    refine ⟨_, hR x ⟨hxa, hxb, fun z za zb => ?_, fun z za zb hz => ?_⟩, 2, fun k hk => ?_⟩
    · obtain ⟨z1, z2⟩ := (hlo z).1 ⟨za, zb⟩
      exact (h4 z z1 (by omega)).1
    · obtain ⟨z1, z2⟩ := (hlo z).1 ⟨za, zb⟩
      exact (h4 z z1 (by omega)).2 hz
    · obtain ⟨m, rfl⟩ : ∃ m, k = m + 2 := ⟨k - 2, by omega⟩
      exact meet_end a b va vb hxa hxb (by omega) m
  | n + 1, x, y, hn, h1, h2, h3, h4, h5 => by
    obtain ⟨hxa, hxb⟩ := (hlo x).2 ⟨h1, h2⟩
    obtain ⟨hya, hyb⟩ := (hlo y).2 ⟨h3, by omega⟩
    obtain ⟨r, hr, he⟩ := meet_loop va vb hlo R hR n (if two a b y < two a b x then y else x) (y + 1) (by omega) (by split <;> omega) (by split <;> omega) (by omega) (fun z z1 z2 => by
      by_cases hz : z = y
      · subst hz
        split
        · exact ⟨Int.le_refl _, fun h => by omega⟩
        · exact ⟨by omega, fun h => by omega⟩
      · obtain ⟨q1, q2⟩ := h4 z z1 (by omega)
        split
        · exact ⟨by omega, fun h => by omega⟩
        · exact ⟨q1, q2⟩) (by split <;> omega)
    exact ⟨r, hr, Ev.step (meet_step a b va vb hxa hxb hya hyb (by omega)) he⟩
/-- What Meet returns. -/
theorem meet_ev (a b : S24) : (∃ n : Int, n ≠ 0 ∧ Ev (fun k => curve_Meet.f k a.f0 a.f1 a.f2 b.f0 b.f1 b.f2) (0, 0, 0, n)) ∨ (Vc a ∧ Vc b ∧ ∃ x, Low a b x ∧ Ev (fun k => curve_Meet.f k a.f0 a.f1 a.f2 b.f0 b.f1 b.f2) (two a b x, x, meetP a b x, 0)) := by
  by_cases va : Vc a
  · by_cases vb : Vc b
    · by_cases hle : mx a.f0 b.f0 ≤ mn (a.f0 + (a.f2.length : Int)) (b.f0 + (b.f2.length : Int))
      · right
        refine ⟨va, vb, ?_⟩
        obtain ⟨r, ⟨x, hx, rfl⟩, he⟩ := meet_loop va vb (lo := mx a.f0 b.f0) (hi := mn (a.f0 + (a.f2.length : Int)) (b.f0 + (b.f2.length : Int))) (fun z => by rw [mx_eq, mn_eq]; unfold inC; omega) (fun r => ∃ x, Low a b x ∧ r = (two a b x, x, meetP a b x, 0)) (fun x hx => ⟨x, hx, rfl⟩)
          (mn (a.f0 + (a.f2.length : Int)) (b.f0 + (b.f2.length : Int)) - mx a.f0 b.f0 + 1).toNat (mx a.f0 b.f0) (mx a.f0 b.f0) (by omega) (Int.le_refl _) hle (Int.le_refl _) (fun z z1 z2 => by omega) (.inr rfl)
        refine ⟨x, hx, ?_⟩
        refine Ev.congr (f := fun k => curve_Meet.j0 k false a.f0 a.f1 a.f2 b.f0 b.f1 b.f2) (fun k => ?_) (Ev.step (fun k => ?_) he)
        · unfold curve_Meet.f
          rw [valid_f a, Option.bind_some, if_pos (decide_eq_true va), valid_f b, Option.bind_some, decide_eq_true vb]
          rfl
        · simp only [curve_Meet.j0]
          rw [if_neg (by simp), to_f va, to_f vb, Option.bind_some, Option.bind_some, if_neg (by omega)]
      · refine .inl ⟨6, by decide, ?_⟩
        refine Ev.congr (f := fun k => curve_Meet.j0 k false a.f0 a.f1 a.f2 b.f0 b.f1 b.f2) (fun k => ?_) (Ev.step (f := fun _ => some (0, 0, 0, 6)) (fun k => ?_) (Ev.now _))
        · unfold curve_Meet.f
          rw [valid_f a, Option.bind_some, if_pos (decide_eq_true va), valid_f b, Option.bind_some, decide_eq_true vb]
          rfl
        · simp only [curve_Meet.j0]
          rw [if_neg (by simp), to_f va, to_f vb, Option.bind_some, Option.bind_some, if_pos (by omega)]
    · refine .inl ⟨2, by decide, ?_⟩
      refine Ev.congr (f := fun k => curve_Meet.j0 k true a.f0 a.f1 a.f2 b.f0 b.f1 b.f2) (fun k => ?_) (Ev.step (f := fun _ => some (0, 0, 0, 2)) (fun k => ?_) (Ev.now _))
      · unfold curve_Meet.f
        rw [valid_f a, Option.bind_some, if_pos (decide_eq_true va), valid_f b, Option.bind_some, decide_eq_false vb]
        rfl
      · simp only [curve_Meet.j0]
        rw [if_pos trivial]
  · refine .inl ⟨2, by decide, ?_⟩
    refine Ev.congr (f := fun k => curve_Meet.j0 k true a.f0 a.f1 a.f2 b.f0 b.f1 b.f2) (fun k => ?_) (Ev.step (f := fun _ => some (0, 0, 0, 2)) (fun k => ?_) (Ev.now _))
    · unfold curve_Meet.f
      rw [valid_f a, Option.bind_some, decide_eq_false va, if_neg (by simp)]
    · simp only [curve_Meet.j0]
      rw [if_pos trivial]
end Go.Proofs.Ytingjpcgehgiiaa.Pr
end
