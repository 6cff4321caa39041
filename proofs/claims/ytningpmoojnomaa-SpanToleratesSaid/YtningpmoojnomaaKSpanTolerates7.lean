/- What the proof of the law needs, trimmed and merged by wip/pack.py out of the texts YtningpmoojnomaaPrx15, YtningpmoojnomaaExtHas, YtningpmoojnomaaMath, YtningpmoojnomaaSets, YtningpmoojnomaaSetm, YtningpmoojnomaaPrx16, YtningpmoojnomaaPrx17, YtningpmoojnomaaExtGrow. No condition. -/
import Derived.Test.YtningpmoojnomaaKSpanTolerates0
import Derived.Test.YtningpmoojnomaaKSpanTolerates1
import Derived.Test.YtningpmoojnomaaKSpanTolerates2
import Derived.Test.YtningpmoojnomaaKSpanTolerates3
import Derived.Test.YtningpmoojnomaaKSpanTolerates4
import Derived.Test.YtningpmoojnomaaKSpanTolerates5
import Derived.Test.YtningpmoojnomaaKSpanTolerates6
section
namespace Go.Proofs.Ytningpmoojnomaa.Pr
open Go.RowKit Go.Proofs.YtningpmoojnomaaW.PrintWords Go.Proofs.YtningpmoojnomaaW.PrintLast Go.Proofs.YtningpmoojnomaaW.PrintMore
attribute [local go_sem] max2_int min2_int max_two min_two max_three min_three max_four min_four   -- for this text's walks alone
set_option linter.unusedVariables false
set_option linter.unusedSimpArgs false
def kimberliteref01_Whole.f  : Option (Int × Int) := some ((-1099511627776), 1099511627776)
set_option maxHeartbeats 8000000 in
set_option maxRecDepth 100000 in
theorem kimberliteref01_Whole.calls  (r1 : Int) (r2 : Int) (w : World) (h : kimberliteref01_Whole.f  = some (r1, r2)) :
 Calls Try.prog 78 #[] w fun e w' => e = .returned (.agg #[.int .i64 r1, .int .i64 r2]) ∧ Below w.heap.size w w' := by
 have hu32 := Try.underlying32
 have HB := Aside0.mk (Below.refl w.heap.size w)
 have H : (some ((-1099511627776), 1099511627776)) = some (r1, r2) := h
 clear h
 simp only [Option.some.injEq, Prod.mk.injEq] at H
 obtain ⟨rfl, rfl⟩ := H
 go_enter Try.func78, Try.ntmps78
 go_wp2_with (first | ((with_reducible refine gate_dst (N := 0) rfl ?_); refine box_event ?hg (N := 0) ?hd (cs := #[.int .i64 0, .int .i64 0]) (t := 32) ?hr ?_; (case hd => rfl); (case hg => rfl); (case hr => first | (go_simp; done) | (go_simp; rfl)); intro gb222 hg w1 hbox hb; have n0_ := Aside0.mk (below_step (by repeat (first | (with_reducible first | exact HB.out | apply below_alloc | apply pw_below_drewN | apply below_drew1) | exact HB.out)) hb); have n1_ := Aside0.mk (hbox); have n2_ := Aside0.mk ((by rw [hg]; exact (below_size (by repeat (first | (with_reducible first | exact HB.out | apply below_alloc | apply pw_below_drewN | apply below_drew1) | exact HB.out))) : w.heap.size ≤ gb222)); have n3_ := Aside0.mk ((by rw [hg]; exact (below_size (by repeat (first | (with_reducible first | exact HB.out | apply below_alloc | apply pw_below_drewN | apply below_drew1) | exact HB.out))) : w.heap.size ≤ gb222)); clear HB; have HB := n0_; have BK222 := n1_; have GW222 := n2_; have GE222 := n3_; clear n0_ n1_ n2_ n3_; clear hb hbox hg; have hcz2_0 : w1.cell? ⟨gb222, 0, none⟩ = some (.int .i64 0) := (blk_cell BK222.out 0).trans rfl; have hcz2_1 : w1.cell? ⟨gb222, 1, none⟩ = some (.int .i64 0) := (blk_cell BK222.out 1).trans rfl; have hfz2_0 := blk_frozen BK222.out 0; have hfz2_1 := blk_frozen BK222.out 1))
 refine bodyPost_ret (results_cell_row rfl _ _ gb222 32 #[.int .i64 (-1099511627776), .int .i64 1099511627776] (0, 0) _ rfl (by (with_reducible repeat (first | refine blk_drewN ?_ _ | refine blk_drew ?_ | refine blk_alloc ?_ _)); refine blk_put (cs := #[.int .i64 (-1099511627776), .int .i64 0]) ?_ 1 _ rfl; (with_reducible repeat (first | refine blk_drewN ?_ _ | refine blk_drew ?_ | refine blk_alloc ?_ _)); refine blk_put (cs := #[.int .i64 0, .int .i64 0]) ?_ 0 _ rfl; (with_reducible repeat (first | refine blk_drewN ?_ _ | refine blk_drew ?_ | refine blk_alloc ?_ _)); exact BK222.out) Try.underlying32 rfl (by kernel_rfl)) rfl ?_
 exact ⟨by first | rfl | (simp [errW_none, errW_some] <;> rfl) | (simp [*, errW_none, errW_some] <;> rfl), by repeat (first | (with_reducible first | exact HB.out | apply below_alloc | apply pw_below_drewN | apply below_drew1 | refine below_set ?_ GE222.out) | exact HB.out)⟩
end Go.Proofs.Ytningpmoojnomaa.Pr
end
section
namespace Go.Proofs.Ytningpmoojnomaa.Pr
open Go.RowKit Go.Shelf Go.Proofs.YtningpmoojnomaaW.PrintWords Go.Proofs.YtningpmoojnomaaW.PrintLast Go.Proofs.YtningpmoojnomaaW.PrintMore
set_option linter.unusedVariables false
set_option linter.unusedSimpArgs false
def hasS (x : Int) (s : S32) : Bool := decide (s.f0 ≤ x) && decide (x < s.f1)
end Go.Proofs.Ytningpmoojnomaa.Pr
end
section
namespace Go.Proofs.Ytningpmoojnomaa.Pr
open Go.RowKit Go.Proofs.YtningpmoojnomaaW.PrintWords Go.Proofs.YtningpmoojnomaaW.PrintLast Go.Proofs.YtningpmoojnomaaW.PrintMore
set_option linter.unusedVariables false
set_option linter.unusedSimpArgs false
theorem rd_nat (l : List S32) (i : Nat) : rd_T32 l (i : Int) = l.getD i z32 := by unfold rd_T32; rw [Int.toNat_natCast]
theorem wrap_succ {i n : Nat} (h : i < n) (hn : n ≤ 9223372036854775807) : wrap64 ((i : Int) + 1) = ((i + 1 : Nat) : Int) := by
  unfold wrap64
  omega
theorem wrap_pred {i n : Nat} (h0 : 0 < i) (h : i < n) (hn : n ≤ 9223372036854775807) : wrap64 ((i : Int) - 1) = ((i - 1 : Nat) : Int) := by
  unfold wrap64
  omega
theorem mn_eq (a b : Int) : mn a b = min a b := by unfold mn; omega
theorem mx_eq (a b : Int) : mx a b = max a b := by unfold mx; omega
theorem drop_cons (l : List S32) (i : Nat) (h : i < l.length) : l.drop i = l.getD i z32 :: l.drop (i + 1) := by
  rw [List.drop_eq_getElem_cons h]
  simp [List.getD_eq_getElem?_getD, List.getElem?_eq_getElem h]
def okAt (l : List S32) (i : Nat) : Bool := goodS (l.getD i z32) && (i == 0 || decide ((l.getD (i - 1) z32).f1 < (l.getD i z32).f0))
def validFrom (l : List S32) (i : Nat) : Bool := (List.range' i (l.length - i)).all (okAt l)
theorem validFrom_end (l : List S32) (i : Nat) (h : l.length ≤ i) : validFrom l i = true := by
  unfold validFrom
  rw [Nat.sub_eq_zero_of_le h]
  rfl
theorem validFrom_step (l : List S32) (i : Nat) (h : i < l.length) : validFrom l i = (okAt l i && validFrom l (i + 1)) := by
  unfold validFrom
  rw [show l.length - i = (l.length - (i + 1)) + 1 by omega, List.range'_succ, List.all_cons]
def validS (l : List S32) : Bool := decide (l.length ≤ 128) && validFrom l 0
theorem spanValid_step (l : List S32) (i k : Nat) (h : i < l.length) (hn : l.length ≤ 9223372036854775807) :
    span_Valid.l0 (k + 1) l l (l.length : Int) (i : Int) = span_Valid.j1 k l l (l.length : Int) (i : Int) (!okAt l i) := by
  have hlt : (i : Int) < (l.length : Int) := by omega
  simp only [span_Valid.l0]
  rw [if_pos hlt, if_pos (by omega), if_pos hlt, goodS_f, Option.bind_some]
  unfold okAt
  cases hg : goodS (rd_T32 l (i : Int)) with
  | false => rw [rd_nat] at hg; simp only [hg]; simp
  | true =>
    rw [rd_nat] at hg
    simp only [hg, Bool.true_and]
    rw [if_pos trivial]
    by_cases h0 : i = 0
    · subst h0
      simp
    · have e0 : (i == 0) = false := by simpa using h0
      rw [if_pos (by omega : (i : Int) > 0), wrap_pred (by omega) h hn, if_pos (by omega), if_pos (by omega), rd_nat, rd_nat, e0, Bool.false_or]
      congr 1
      rw [Bool.eq_iff_iff]
      simp
theorem spanValid_loop (l : List S32) (hn : l.length ≤ 9223372036854775807) : ∀ (d i : Nat), l.length - i = d → Ev (fun k => span_Valid.l0 k l l (l.length : Int) (i : Int)) (validFrom l i)
  | 0, i, h => by
    rw [validFrom_end l i (by omega)]
    exact Ev.step (f := fun _ => some true) (fun k => by simp only [span_Valid.l0]; rw [if_neg (by omega)]) (Ev.now _)
  | d + 1, i, h => by
    rw [validFrom_step l i (by omega)]
    refine Ev.step (fun k => spanValid_step l i k (by omega) hn) ?_
    cases okAt l i with
    | true => exact Ev.step (f := fun k => span_Valid.l0 k l l (l.length : Int) ((i + 1 : Nat) : Int)) (fun k => by simp only [span_Valid.j1]; rw [wrap_succ (show i < l.length by omega) hn]; simp) (by simpa using spanValid_loop l hn d (i + 1) (by omega))
    | false => exact Ev.step (f := fun _ => some false) (fun k => by simp only [span_Valid.j1]; simp) (Ev.now _)
theorem spanValid_ev (l : List S32) (hn : l.length ≤ 9223372036854775807) : Ev (fun k => span_Valid.f k l) (validS l) := by
  unfold span_Valid.f validS
  by_cases h : (l.length : Int) > 128
  · rw [show decide (l.length ≤ 128) = false by simp; omega]
    simpa [h] using Ev.now false
  · rw [show decide (l.length ≤ 128) = true by simp; omega]
    simpa [h] using spanValid_loop l hn _ 0 rfl
theorem refGood_f (x : S32) : kimberliteref01_Good.f x.f0 x.f1 = some (goodS x) := goodS_f x
theorem refValid_step (l : List S32) (i k : Nat) (h : i < l.length) (hn : l.length ≤ 9223372036854775807) :
    kimberliteref01_Valid.l0 (k + 1) l (i : Int) = kimberliteref01_Valid.j1 k l (i : Int) (!okAt l i) := by
  have hlt : (i : Int) < (l.length : Int) := by omega
  simp only [kimberliteref01_Valid.l0]
  rw [if_pos hlt, if_pos (by omega), refGood_f, Option.bind_some]
  unfold okAt
  cases hg : goodS (rd_T32 l (i : Int)) with
  | false => rw [rd_nat] at hg; simp only [hg]; simp
  | true =>
    rw [rd_nat] at hg
    simp only [hg, Bool.true_and]
    rw [if_pos trivial]
    by_cases h0 : i = 0
    · subst h0
      simp
    · have e0 : (i == 0) = false := by simpa using h0
      rw [if_pos (by omega : (i : Int) > 0), wrap_pred (by omega) h hn, if_pos (by omega), if_pos (by omega), rd_nat, rd_nat, e0, Bool.false_or]
      congr 1
      rw [Bool.eq_iff_iff]
      simp
theorem refValid_loop (l : List S32) (hn : l.length ≤ 9223372036854775807) : ∀ (d i : Nat), l.length - i = d → Ev (fun k => kimberliteref01_Valid.l0 k l (i : Int)) (validFrom l i)
  | 0, i, h => by
    rw [validFrom_end l i (by omega)]
    exact Ev.step (f := fun _ => some true) (fun k => by simp only [kimberliteref01_Valid.l0]; rw [if_neg (by omega)]) (Ev.now _)
  | d + 1, i, h => by
    rw [validFrom_step l i (by omega)]
    refine Ev.step (fun k => refValid_step l i k (by omega) hn) ?_
    cases okAt l i with
    | true => exact Ev.step (f := fun k => kimberliteref01_Valid.l0 k l ((i + 1 : Nat) : Int)) (fun k => by simp only [kimberliteref01_Valid.j1]; rw [wrap_succ (show i < l.length by omega) hn]; simp) (by simpa using refValid_loop l hn d (i + 1) (by omega))
    | false => exact Ev.step (f := fun _ => some false) (fun k => by simp only [kimberliteref01_Valid.j1]; simp) (Ev.now _)
theorem refValid_ev (l : List S32) (hn : l.length ≤ 9223372036854775807) : Ev (fun k => kimberliteref01_Valid.f k l) (validS l) := by
  unfold kimberliteref01_Valid.f validS
  by_cases h : (l.length : Int) > 128
  · rw [show decide (l.length ≤ 128) = false by simp; omega]
    simpa [h] using Ev.now false
  · rw [show decide (l.length ≤ 128) = true by simp; omega]
    simpa [h] using refValid_loop l hn _ 0 rfl
theorem refIn_loop (l : List S32) (x : Int) (hn : l.length ≤ 9223372036854775807) : ∀ (d i : Nat), l.length - i = d → Ev (fun k => kimberliteref01_in.l0 k l x (i : Int)) ((l.drop i).any (hasS x))
  | 0, i, h => by
    rw [List.drop_eq_nil_of_le (by omega)]
    exact Ev.step (f := fun _ => some false) (fun k => by simp only [kimberliteref01_in.l0]; rw [if_neg (by omega)]) (Ev.now _)
  | d + 1, i, h => by
    have hi : i < l.length := by omega
    rw [drop_cons l i hi, List.any_cons]
    refine Ev.step (f := fun k => kimberliteref01_in.j1 k l x (i : Int) (hasS x (l.getD i z32))) (fun k => ?_) ?_
    · simp only [kimberliteref01_in.l0]
      rw [if_pos (by omega), if_pos (by omega), rd_nat]
      unfold hasS
      by_cases hc : (l.getD i z32).f0 ≤ x
      · rw [if_pos hc, decide_eq_true hc, Bool.true_and]
      · rw [if_neg hc, decide_eq_false hc, Bool.false_and]
    · cases hasS x (l.getD i z32) with
      | true => exact Ev.step (f := fun _ => some true) (fun k => by simp only [kimberliteref01_in.j1]; simp) (Ev.now _)
      | false => exact Ev.step (f := fun k => kimberliteref01_in.l0 k l x ((i + 1 : Nat) : Int)) (fun k => by simp only [kimberliteref01_in.j1]; rw [wrap_succ hi hn]; simp) (by simpa using refIn_loop l x hn d (i + 1) (by omega))
theorem refIn_ev (l : List S32) (x : Int) (hn : l.length ≤ 9223372036854775807) : Ev (fun k => kimberliteref01_in.f k l x) (l.any (hasS x)) := by
  simpa [kimberliteref01_in.f] using refIn_loop l x hn _ 0 rfl
/-- Ascending from lo on, with gaps, below the bound. -/
def Asc (lo : Int) : List S32 → Prop
  | [] => True
  | s :: t => lo ≤ s.f0 ∧ s.f0 < s.f1 ∧ s.f1 ≤ 1099511627776 ∧ Asc (s.f1 + 1) t
theorem goodS_iff (s : S32) : goodS s = true ↔ -1099511627776 ≤ s.f0 ∧ s.f0 < s.f1 ∧ s.f1 ≤ 1099511627776 := by
  unfold goodS
  simp
theorem asc_of_valid (l : List S32) : ∀ (d i : Nat), l.length - i = d → validFrom l i = true → Asc (if i = 0 then -1099511627776 else (l.getD (i - 1) z32).f1 + 1) (l.drop i)
  | 0, i, h, _ => by rw [List.drop_eq_nil_of_le (by omega)]; trivial
  | d + 1, i, h, hv => by
    have hi : i < l.length := by omega
    rw [validFrom_step l i hi, Bool.and_eq_true] at hv
    have ih := asc_of_valid l d (i + 1) (by omega) hv.2
    rw [if_neg (by omega), Nat.add_sub_cancel] at ih
    have h1 := hv.1
    unfold okAt at h1
    rw [Bool.and_eq_true, goodS_iff] at h1
    rw [drop_cons l i hi]
    refine ⟨?_, h1.1.2.1, h1.1.2.2, ih⟩
    by_cases h0 : i = 0
    · rw [if_pos h0]; exact h1.1.1
    · rw [if_neg h0]
      have := h1.2
      have e0 : (i == 0) = false := by simpa using h0
      rw [e0, Bool.false_or] at this
      have := of_decide_eq_true this
      omega
theorem asc_valid {l : List S32} (h : validS l = true) : l.length ≤ 128 ∧ Asc (-1099511627776) l := by
  unfold validS at h
  rw [Bool.and_eq_true] at h
  refine ⟨by simpa using h.1, ?_⟩
  have := asc_of_valid l _ 0 rfl h.2
  simpa using this
end Go.Proofs.Ytningpmoojnomaa.Pr
end
section
namespace Go.Proofs.Ytningpmoojnomaa.Pr
open Go.RowKit Go.Proofs.YtningpmoojnomaaW.PrintWords Go.Proofs.YtningpmoojnomaaW.PrintLast Go.Proofs.YtningpmoojnomaaW.PrintMore
set_option linter.unusedVariables false
set_option linter.unusedSimpArgs false
def memS (l : List S32) (x : Int) : Bool := l.any (hasS x)
theorem memS_cons (s : S32) (t : List S32) (x : Int) : memS (s :: t) x = (hasS x s || memS t x) := rfl
theorem hasS_iff (x : Int) (s : S32) : hasS x s = true ↔ s.f0 ≤ x ∧ x < s.f1 := by unfold hasS; simp
theorem memS_iff (l : List S32) (x : Int) : memS l x = true ↔ ∃ s ∈ l, s.f0 ≤ x ∧ x < s.f1 := by
  unfold memS
  rw [List.any_eq_true]
  simp only [hasS_iff]
theorem asc_low : ∀ (l : List S32) (lo x : Int), Asc lo l → memS l x = true → lo ≤ x
  | [], _, _, _, h => by simp [memS] at h
  | s :: t, lo, x, ⟨h1, h2, h3, h4⟩, h => by
    rw [memS_cons, Bool.or_eq_true, hasS_iff] at h
    rcases h with h | h
    · omega
    · have := asc_low t _ x h4 h
      omega
theorem asc_mono : ∀ (l : List S32) (lo lo' : Int), lo' ≤ lo → Asc lo l → Asc lo' l
  | [], _, _, _, _ => trivial
  | _ :: _, _, _, h, ⟨h1, h2, h3, h4⟩ => ⟨by omega, h2, h3, h4⟩
/-- AN ASCENDING LIST IS KNOWN BY ITS NUMBERS. -/
theorem canon : ∀ (a b : List S32) (lo lo' : Int), Asc lo a → Asc lo' b → (∀ x, memS a x = memS b x) → a = b
  | [], [], _, _, _, _, _ => rfl
  | [], s :: t, _, _, _, ⟨_, h2, _, _⟩, h => by
    have := h s.f0
    rw [memS_cons, show hasS s.f0 s = true from (hasS_iff _ _).2 ⟨Int.le_refl _, h2⟩] at this
    simp [memS] at this
  | s :: t, [], _, _, ⟨_, h2, _, _⟩, _, h => by
    have := h s.f0
    rw [memS_cons, show hasS s.f0 s = true from (hasS_iff _ _).2 ⟨Int.le_refl _, h2⟩] at this
    simp [memS] at this
  | s :: t, s' :: t', lo, lo', ha, hb, h => by
    have ha' : Asc s.f0 (s :: t) := ⟨Int.le_refl _, ha.2⟩
    have hb' : Asc s'.f0 (s' :: t') := ⟨Int.le_refl _, hb.2⟩
    have m0 : memS (s :: t) s.f0 = true := by rw [memS_cons, (hasS_iff s.f0 s).2 ⟨Int.le_refl _, ha.2.1⟩]; rfl
    have m0' : memS (s' :: t') s'.f0 = true := by rw [memS_cons, (hasS_iff s'.f0 s').2 ⟨Int.le_refl _, hb.2.1⟩]; rfl
    have e0 : s.f0 = s'.f0 := by
      have h1 := asc_low _ _ _ hb' ((h s.f0).symm.trans m0)
      have h2 := asc_low _ _ _ ha' ((h s'.f0).trans m0')
      omega
    have nt : ∀ x, x ≤ s.f1 → memS t x = false := fun x hx => by
      rw [← Bool.not_eq_true]
      intro hc
      have := asc_low _ _ _ ha.2.2.2 hc
      omega
    have nt' : ∀ x, x ≤ s'.f1 → memS t' x = false := fun x hx => by
      rw [← Bool.not_eq_true]
      intro hc
      have := asc_low _ _ _ hb.2.2.2 hc
      omega
    have e1 : s.f1 = s'.f1 := by
      rcases Int.lt_trichotomy s.f1 s'.f1 with hlt | heq | hgt
      · have := h s.f1
        rw [memS_cons, memS_cons, nt s.f1 (Int.le_refl _), (hasS_iff s.f1 s').2 ⟨by have := ha.2.1; omega, hlt⟩] at this
        simp [hasS] at this
      · exact heq
      · have := h s'.f1
        rw [memS_cons, memS_cons, nt' s'.f1 (Int.le_refl _), (hasS_iff s'.f1 s).2 ⟨by have := hb.2.1; omega, hgt⟩] at this
        simp [hasS] at this
    have es : s = s' := by
      cases s
      cases s'
      simp at e0 e1
      subst e0 e1
      rfl
    subst es
    rw [canon t t' _ _ ha.2.2.2 hb.2.2.2 (fun x => by
      rcases Int.lt_or_le s.f1 x with hx | hx
      · have := h x
        rw [memS_cons, memS_cons, show hasS x s = false by rw [← Bool.not_eq_true, hasS_iff]; omega] at this
        simpa using this
      · rw [nt x hx, nt' x hx])]
def jn : List S32 → Option S32 → List S32
  | [], cur => cur.toList
  | s :: t, none => jn t (some s)
  | s :: t, some c => if s.f0 ≤ c.f1 then jn t (some ⟨c.f0, max c.f1 s.f1⟩) else c :: jn t (some s)
theorem jn_spec : ∀ (l : List S32) (cur : Option S32) (lo : Int), l.Pairwise (fun a b => a.f0 ≤ b.f0) → (∀ s ∈ l, lo ≤ s.f0 ∧ s.f0 < s.f1 ∧ s.f1 ≤ 1099511627776) →
    (∀ c, cur = some c → lo ≤ c.f0 ∧ c.f0 < c.f1 ∧ c.f1 ≤ 1099511627776 ∧ ∀ s ∈ l, c.f0 ≤ s.f0) → Asc lo (jn l cur) ∧ ∀ x, memS (jn l cur) x = (memS cur.toList x || memS l x)
  | [], none, lo, _, _, _ => ⟨trivial, fun x => by simp [jn, memS]⟩
  | [], some c, lo, _, _, hc => by
    obtain ⟨h1, h2, h3, _⟩ := hc c rfl
    exact ⟨⟨h1, h2, h3, trivial⟩, fun x => by simp [jn, memS]⟩
  | s :: t, none, lo, hp, hl, _ => by
    rw [List.pairwise_cons] at hp
    obtain ⟨h1, h2, h3⟩ := hl s (List.mem_cons_self)
    obtain ⟨ha, hm⟩ := jn_spec t (some s) lo hp.2 (fun x hx => hl x (List.mem_cons_of_mem _ hx)) (fun c hc => by
      injection hc with hc
      subst hc
      exact ⟨h1, h2, h3, hp.1⟩)
    exact ⟨ha, fun x => by rw [jn, hm x]; simp [memS]⟩
  | s :: t, some c, lo, hp, hl, hc => by
    rw [List.pairwise_cons] at hp
    obtain ⟨h1, h2, h3⟩ := hl s (List.mem_cons_self)
    obtain ⟨c1, c2, c3, c4⟩ := hc c rfl
    have c5 := c4 s (List.mem_cons_self)
    rw [jn]
    by_cases hle : s.f0 ≤ c.f1
    · rw [if_pos hle]
      obtain ⟨ha, hm⟩ := jn_spec t (some ⟨c.f0, max c.f1 s.f1⟩) lo hp.2 (fun x hx => hl x (List.mem_cons_of_mem _ hx)) (fun d hd => by
        injection hd with hd
        subst hd
        exact ⟨c1, by simp; omega, by simp; omega, fun x hx => c4 x (List.mem_cons_of_mem _ hx)⟩)
      refine ⟨ha, fun x => ?_⟩
      rw [hm x, memS_cons, ← Bool.or_assoc]
      congr 1
      simp only [Option.toList_some, memS, List.any_cons, List.any_nil, Bool.or_false]
      rw [Bool.eq_iff_iff, Bool.or_eq_true, hasS_iff, hasS_iff, hasS_iff]
      simp only
      omega
    · rw [if_neg hle]
      obtain ⟨ha, hm⟩ := jn_spec t (some s) (c.f1 + 1) hp.2 (fun x hx => by
        have := hl x (List.mem_cons_of_mem _ hx)
        have := hp.1 x hx
        exact ⟨by omega, by omega, by omega⟩) (fun d hd => by
        injection hd with hd
        subst hd
        exact ⟨by omega, h2, h3, hp.1⟩)
      exact ⟨⟨c1, c2, c3, ha⟩, fun x => by rw [memS_cons, hm x]; simp [memS]⟩
theorem rd_last (p : List S32) (c : S32) : rd_T32 (p ++ [c]) ((p.length : Nat) : Int) = c := by
  rw [rd_nat]
  simp [List.getD_eq_getElem?_getD]
theorem set_last (p : List S32) (c d : S32) : (p ++ [c]).set p.length d = p ++ [d] := by
  rw [List.set_append_right _ _ (Nat.le_refl _)]
  simp
theorem len_last (p : List S32) (c : S32) (h : p.length < 4611686018427387904) : wrap64 (((p ++ [c]).length : Int) - 1) = ((p.length : Nat) : Int) := by
  rw [List.length_append, List.length_singleton]
  unfold wrap64
  omega
theorem joined_loop (l : List S32) (hn : l.length ≤ 1000000) : ∀ (d i : Nat) (p : List S32) (c : S32), l.length - i = d → i ≤ l.length → p.length + 1 ≤ i →
    Ev (fun k => span_joined.l0 k (p ++ [c]) l (l.length : Int) (i : Int)) (p ++ jn (l.drop i) (some c))
  | 0, i, p, c, h, _, _ => by
    rw [List.drop_eq_nil_of_le (by omega)]
    exact Ev.step (f := fun _ => some (p ++ [c])) (fun k => by simp only [span_joined.l0]; rw [if_neg (by omega)]) (Ev.now _)
  | d + 1, i, p, c, h, hi', hp => by
    have hi : i < l.length := by omega
    have hw := len_last p c (by omega)
    have hlen : (((p ++ [c]).length : Nat) : Int) = (p.length : Int) + 1 := by simp
    rw [drop_cons l i hi, jn]
    refine Ev.step (f := fun k => span_joined.j1 k (p ++ [c]) ((p ++ [c]).length : Int) l (l.length : Int) (i : Int) (decide ((l.getD i z32).f0 ≤ c.f1)) (l.getD i z32).f0 (l.getD i z32).f1) (fun k => ?_) ?_
    · simp only [span_joined.l0]
      rw [if_pos (by omega), if_pos (by omega), if_pos (by omega), rd_nat, if_pos (by omega), hw, if_pos (by omega), if_pos (by omega), rd_last]
    · by_cases hle : (l.getD i z32).f0 ≤ c.f1
      · rw [if_pos hle, decide_eq_true hle]
        refine Ev.step (f := fun k => span_joined.l0 k (p ++ [⟨c.f0, max c.f1 (l.getD i z32).f1⟩]) l (l.length : Int) ((i + 1 : Nat) : Int)) (fun k => ?_) (joined_loop l hn d (i + 1) p _ (by omega) (by omega) (by omega))
        simp only [span_joined.j1]
        rw [if_pos trivial, hw, if_pos (by omega), if_pos (by omega), rd_last, wrap_succ hi (by omega), Int.toNat_natCast, set_last, mx_eq]
      · rw [if_neg hle, decide_eq_false hle]
        have := joined_loop l hn d (i + 1) (p ++ [c]) (l.getD i z32) (by omega) (by omega) (by simp; omega)
        rw [show p ++ c :: jn (l.drop (i + 1)) (some (l.getD i z32)) = (p ++ [c]) ++ jn (l.drop (i + 1)) (some (l.getD i z32)) by simp]
        refine Ev.step (fun k => ?_) this
        simp only [span_joined.j1]
        rw [if_neg (by simp), if_pos (by simp; omega), wrap_succ hi (by omega)]
theorem joined_ev (l : List S32) (hn : l.length ≤ 1000000) : Ev (fun k => span_joined.f k l) (jn l none) := by
  unfold span_joined.f
  rcases l with _ | ⟨s, t⟩
  · exact Ev.step (f := fun _ => some []) (fun k => by simp only [span_joined.l0]; simp) (Ev.now _)
  · refine Ev.step (f := fun k => span_joined.j1 k [] 0 (s :: t) ((s :: t).length : Int) 0 false s.f0 s.f1) (fun k => ?_) ?_
    · simp only [span_joined.l0]
      rw [if_pos (by simp), if_pos (by omega), if_pos (by simp)]
      simp [rd_T32]
    · have := joined_loop (s :: t) hn t.length 1 [] s (by simp) (by simp) (by simp)
      refine Ev.step (fun k => ?_) this
      simp only [span_joined.j1]
      rw [if_neg (by simp), if_pos (by simp)]
      simp [wrap64]
def putRest (x : Int) : List Int → Bool → List Int
  | [], done => if done = true then [] else [x]
  | y :: t, done => if done = false ∧ x ≤ y then (if y = x then x :: putRest x t true else x :: y :: putRest x t true) else (if y = x then putRest x t done else y :: putRest x t done)
def putL (l : List Int) (x : Int) : List Int := putRest x l false
theorem putRest_done (x : Int) : ∀ l : List Int, (∀ y ∈ l, x < y) → putRest x l true = l
  | [], _ => rfl
  | y :: t, h => by
    have := h y (List.mem_cons_self)
    rw [putRest, if_neg (by simp), if_neg (by omega), putRest_done x t (fun z hz => h z (List.mem_cons_of_mem _ hz))]
theorem putL_spec (x : Int) : ∀ l : List Int, l.Pairwise (· < ·) → (putL l x).Pairwise (· < ·) ∧ (∀ z, z ∈ putL l x ↔ z = x ∨ z ∈ l) ∧ (putL l x).length ≤ l.length + 1
  | [], _ => by simp [putL, putRest]
  | y :: t, h => by
    have h0 := h
    rw [List.pairwise_cons] at h
    have ih := putL_spec x t h.2
    unfold putL at ih ⊢
    rw [putRest]
    by_cases hle : x ≤ y
    · rw [if_pos ⟨rfl, hle⟩]
      have hgt : ∀ z ∈ t, x < z := fun z hz => by have := h.1 z hz; omega
      rw [putRest_done x t hgt]
      by_cases he : y = x
      · subst he
        rw [if_pos rfl]
        exact ⟨h0, fun z => by simp, by simp⟩
      · rw [if_neg he]
        refine ⟨?_, fun z => by simp, by simp⟩
        rw [List.pairwise_cons]
        refine ⟨fun z hz => ?_, h0⟩
        rcases List.mem_cons.1 hz with rfl | hz
        · omega
        · exact hgt z hz
    · rw [if_neg (fun hc => hle hc.2), if_neg (by omega)]
      refine ⟨?_, fun z => ?_, ?_⟩
      · rw [List.pairwise_cons]
        refine ⟨fun z hz => ?_, ih.1⟩
        rcases (ih.2.1 z).1 hz with rfl | hz
        · omega
        · exact h.1 z hz
      · rw [List.mem_cons, ih.2.1 z, List.mem_cons]
        exact ⟨fun h => h.elim (fun h => .inr (.inl h)) (fun h => h.elim .inl (fun h => .inr (.inr h))), fun h => h.elim (fun h => .inr (.inl h)) (fun h => h.elim .inl (fun h => .inr (.inr h)))⟩
      · have := ih.2.2
        simp
        omega
theorem dropI (l : List Int) (i : Nat) (h : i < l.length) : l.drop i = rd l (i : Int) :: l.drop (i + 1) := by
  rw [List.drop_eq_getElem_cons h]
  unfold rd
  simp [List.getD_eq_getElem?_getD, List.getElem?_eq_getElem h]
theorem put_loop (l : List Int) (x : Int) (hn : l.length ≤ 1000000) : ∀ (d i : Nat) (out : List Int) (done : Bool), l.length - i = d → out.length ≤ 2 * i → i ≤ l.length →
    Ev (fun k => kimberliteref01_put.l0 k l x out done (i : Int)) (out ++ putRest x (l.drop i) done)
  | 0, i, out, done, h, ho, _ => by
    rw [List.drop_eq_nil_of_le (by omega), putRest]
    cases done with
    | true => exact Ev.step (f := fun _ => some (out ++ [])) (fun k => by simp only [kimberliteref01_put.l0]; rw [if_neg (by omega)]; simp) (Ev.now _)
    | false => exact Ev.step (f := fun _ => some (out ++ [x])) (fun k => by simp only [kimberliteref01_put.l0]; rw [if_neg (by omega), if_neg (by simp), if_pos (by omega)]) (Ev.now _)
  | d + 1, i, out, done, h, ho, hi' => by
    have hi : i < l.length := by omega
    rw [dropI l i hi]
    -- the second half of a round
    have half : ∀ (o : List Int) (b : Bool), o.length ≤ 2 * i + 1 → Ev (fun k => kimberliteref01_put.j2 k l x o b (i : Int)) (o ++ (if rd l (i : Int) = x then putRest x (l.drop (i + 1)) b else rd l (i : Int) :: putRest x (l.drop (i + 1)) b)) := by
      intro o b hob
      by_cases he : rd l (i : Int) = x
      · rw [if_pos he]
        refine Ev.step (fun k => ?_) (put_loop l x hn d (i + 1) o b (by omega) (by omega) (by omega))
        simp only [kimberliteref01_put.j2]
        rw [if_pos (by omega), if_pos (by omega), if_pos he, wrap_succ hi (by omega)]
      · rw [if_neg he]
        have := put_loop l x hn d (i + 1) (o ++ [rd l (i : Int)]) b (by omega) (by simp; omega) (by omega)
        rw [List.append_assoc, List.singleton_append] at this
        refine Ev.step (fun k => ?_) this
        simp only [kimberliteref01_put.j2]
        rw [if_pos (by omega), if_pos (by omega), if_neg he, if_pos (by omega), wrap_succ hi (by omega)]
    rw [putRest]
    cases done with
    | true =>
      rw [if_neg (by simp)]
      refine Ev.step (f := fun k => kimberliteref01_put.j1 k l x out true (i : Int) false) (fun k => by simp only [kimberliteref01_put.l0]; rw [if_pos (by omega)]; simp) ?_
      exact Ev.step (fun k => by simp only [kimberliteref01_put.j1]; simp) (half out true (by omega))
    | false =>
      refine Ev.step (f := fun k => kimberliteref01_put.j1 k l x out false (i : Int) (decide (x ≤ rd l (i : Int)))) (fun k => by simp only [kimberliteref01_put.l0]; rw [if_pos (by omega), if_neg (by simp), if_pos (by omega)]) ?_
      by_cases hle : x ≤ rd l (i : Int)
      · rw [if_pos ⟨rfl, hle⟩, decide_eq_true hle]
        have := half (out ++ [x]) true (by simp; omega)
        rw [List.append_assoc, List.singleton_append] at this
        refine Ev.step (f := fun k => kimberliteref01_put.j2 k l x (out ++ [x]) true (i : Int)) (fun k => by simp only [kimberliteref01_put.j1]; rw [if_pos trivial, if_pos (by omega)]) ?_
        by_cases he : rd l (i : Int) = x
        · rw [if_pos he] at this ⊢
          exact this
        · rw [if_neg he] at this ⊢
          exact this
      · rw [if_neg (fun hc => hle hc.2), decide_eq_false hle]
        exact Ev.step (fun k => by simp only [kimberliteref01_put.j1]; simp) (half out false (by omega))
theorem put_ev (l : List Int) (x : Int) (hn : l.length ≤ 1000000) : Ev (fun k => kimberliteref01_put.f k l x) (putL l x) := by
  simpa [kimberliteref01_put.f, putL] using put_loop l x hn _ 0 [] false rfl (by simp) (by simp)
def endsL (E : List Int) (l : List S32) : List Int := l.foldl (fun E s => putL (putL E s.f0) s.f1) E
theorem endsL_spec : ∀ (l : List S32) (E : List Int), E.Pairwise (· < ·) → (endsL E l).Pairwise (· < ·) ∧ (∀ z, z ∈ endsL E l ↔ z ∈ E ∨ ∃ s ∈ l, z = s.f0 ∨ z = s.f1) ∧ (endsL E l).length ≤ E.length + 2 * l.length
  | [], E, h => by simp [endsL, h]
  | s :: t, E, h => by
    obtain ⟨p1, m1, n1⟩ := putL_spec s.f0 E h
    obtain ⟨p2, m2, n2⟩ := putL_spec s.f1 _ p1
    obtain ⟨p3, m3, n3⟩ := endsL_spec t _ p2
    refine ⟨p3, fun z => ?_, ?_⟩
    · show z ∈ endsL _ t ↔ _
      rw [m3 z, m2 z, m1 z]
      simp only [List.mem_cons, exists_eq_or_imp]
      constructor
      · rintro ((h | h | h) | h)
        · exact .inr (.inl (.inr h))
        · exact .inr (.inl (.inl h))
        · exact .inl h
        · exact .inr (.inr h)
      · rintro (h | (h | h) | h)
        · exact .inl (.inr (.inr h))
        · exact .inl (.inr (.inl h))
        · exact .inl (.inl h)
        · exact .inr h
    · show (endsL _ t).length ≤ _
      simp
      omega
theorem made_l0 (kind : Int) (a b : List S32) (r : List S32) (ha : a.length ≤ 1000) : ∀ (d i : Nat) (E : List Int), a.length - i = d → E.Pairwise (· < ·) → E.length ≤ 2 * i →  i ≤ a.length →
    Ev (fun k => kimberliteref01_Made.l1 k kind a b (endsL E (a.drop i)) 0) r → Ev (fun k => kimberliteref01_Made.l0 k kind a b E (i : Int)) r
  | 0, i, E, h, hp, he, _, hr => by
    rw [List.drop_eq_nil_of_le (by omega)] at hr
    exact Ev.step (fun k => by simp only [kimberliteref01_Made.l0]; rw [if_neg (by omega)]; rfl) hr
  | d + 1, i, E, h, hp, he, hi', hr => by
    have hi : i < a.length := by omega
    rw [drop_cons a i hi] at hr
    obtain ⟨p1, m1, n1⟩ := putL_spec (a.getD i z32).f0 E hp
    obtain ⟨p2, m2, n2⟩ := putL_spec (a.getD i z32).f1 _ p1
    refine Ev.step (f := fun k => (kimberliteref01_put.f k E (a.getD i z32).f0).bind fun t179 => ((kimberliteref01_put.f k t179 (a.getD i z32).f1).bind fun t183 => (kimberliteref01_Made.l0 k kind a b t183 ((i + 1 : Nat) : Int)))) (fun k => ?_) ?_
    · simp only [kimberliteref01_Made.l0]
      rw [if_pos (by omega), if_pos (by omega), rd_nat, wrap_succ hi (by omega)]
    · refine Ev.bind (put_ev _ _ (by omega)) (Ev.bind (put_ev _ _ (by omega)) ?_)
      exact made_l0 kind a b r ha d (i + 1) _ (by omega) p2 (by omega) (by omega) hr
theorem made_l1 (kind : Int) (a b : List S32) (r : List S32) (hb : b.length ≤ 1000) (N : Nat) (hN : N ≤ 2000) : ∀ (d i : Nat) (E : List Int), b.length - i = d → E.Pairwise (· < ·) → E.length ≤ N + 2 * i → i ≤ b.length →
    Ev (fun k => kimberliteref01_Made.l2 k kind a b (endsL E (b.drop i)) [] 0) r → Ev (fun k => kimberliteref01_Made.l1 k kind a b E (i : Int)) r
  | 0, i, E, h, hp, he, _, hr => by
    rw [List.drop_eq_nil_of_le (by omega)] at hr
    exact Ev.step (fun k => by simp only [kimberliteref01_Made.l1]; rw [if_neg (by omega)]; rfl) hr
  | d + 1, i, E, h, hp, he, hi', hr => by
    have hi : i < b.length := by omega
    rw [drop_cons b i hi] at hr
    obtain ⟨p1, m1, n1⟩ := putL_spec (b.getD i z32).f0 E hp
    obtain ⟨p2, m2, n2⟩ := putL_spec (b.getD i z32).f1 _ p1
    refine Ev.step (f := fun k => (kimberliteref01_put.f k E (b.getD i z32).f0).bind fun t179 => ((kimberliteref01_put.f k t179 (b.getD i z32).f1).bind fun t183 => (kimberliteref01_Made.l1 k kind a b t183 ((i + 1 : Nat) : Int)))) (fun k => ?_) ?_
    · simp only [kimberliteref01_Made.l1]
      rw [if_pos (by omega), if_pos (by omega), rd_nat, wrap_succ hi (by omega)]
    · refine Ev.bind (put_ev _ _ (by omega)) (Ev.bind (put_ev _ _ (by omega)) ?_)
      exact made_l1 kind a b r hb N hN d (i + 1) _ (by omega) p2 (by omega) (by omega) hr
def gen (p : Int → Bool) : List Int → Option S32 → List S32
  | e :: e' :: t, none => if p e = true then gen p (e' :: t) (some ⟨e, e'⟩) else gen p (e' :: t) none
  | e :: e' :: t, some c => if p e = true then (if c.f1 = e then gen p (e' :: t) (some ⟨c.f0, e'⟩) else c :: gen p (e' :: t) (some ⟨e, e'⟩)) else gen p (e' :: t) (some c)
  | _, cur => cur.toList
def inP (p : Int → Bool) : List Int → Int → Bool
  | e :: e' :: t, x => (p e && (decide (e ≤ x) && decide (x < e'))) || inP p (e' :: t) x
  | _, _ => false
theorem inP_low (p : Int → Bool) : ∀ (E : List Int) (x : Int), (∀ e ∈ E, x < e) → inP p E x = false
  | [], _, _ => rfl
  | [_], _, _ => rfl
  | e :: e' :: t, x, h => by
    rw [inP, inP_low p (e' :: t) x (fun z hz => h z (List.mem_cons_of_mem _ hz))]
    have := h e (List.mem_cons_self)
    rw [show decide (e ≤ x) = false by simp; omega]
    simp
theorem gen_spec (p : Int → Bool) : ∀ (E : List Int) (cur : Option S32) (lo : Int), E.Pairwise (· < ·) → (∀ e ∈ E, lo ≤ e ∧ e ≤ 1099511627776) →
    (∀ c, cur = some c → lo ≤ c.f0 ∧ c.f0 < c.f1 ∧ c.f1 ≤ 1099511627776 ∧ ∀ e ∈ E, c.f1 ≤ e) → Asc lo (gen p E cur) ∧ ∀ x, memS (gen p E cur) x = (memS cur.toList x || inP p E x)
  | [], cur, lo, _, _, hc => by
    cases cur with
    | none => exact ⟨trivial, fun x => by simp [gen, inP, memS]⟩
    | some c => obtain ⟨h1, h2, h3, _⟩ := hc c rfl; exact ⟨⟨h1, h2, h3, trivial⟩, fun x => by simp [gen, inP, memS]⟩
  | [e], cur, lo, _, _, hc => by
    cases cur with
    | none => exact ⟨trivial, fun x => by simp [gen, inP, memS]⟩
    | some c => obtain ⟨h1, h2, h3, _⟩ := hc c rfl; exact ⟨⟨h1, h2, h3, trivial⟩, fun x => by simp [gen, inP, memS]⟩
  | e :: e' :: t, none, lo, hp, hE, _ => by
    rw [List.pairwise_cons] at hp
    have hee := hp.1 e' (List.mem_cons_self)
    have he := hE e (List.mem_cons_self)
    have he' := hE e' (List.mem_cons_of_mem _ List.mem_cons_self)
    have hE' := fun z hz => hE z (List.mem_cons_of_mem _ hz)
    rw [gen]
    by_cases hpe : p e = true
    · rw [if_pos hpe]
      obtain ⟨ha, hm⟩ := gen_spec p (e' :: t) (some ⟨e, e'⟩) lo hp.2 hE' (fun c hc => by
        injection hc with hc
        subst hc
        refine ⟨he.1, hee, he'.2, fun z hz => ?_⟩
        rcases List.mem_cons.1 hz with rfl | hz
        · exact Int.le_refl _
        · have := (List.pairwise_cons.1 hp.2).1 z hz
          exact Int.le_of_lt this)
      refine ⟨ha, fun x => ?_⟩
      rw [hm x, inP, hpe]
      simp [memS, hasS]
    · rw [if_neg hpe]
      obtain ⟨ha, hm⟩ := gen_spec p (e' :: t) none lo hp.2 hE' (fun c hc => by cases hc)
      refine ⟨ha, fun x => ?_⟩
      rw [hm x, inP, Bool.eq_false_iff.2 hpe]
      simp
  | e :: e' :: t, some c, lo, hp, hE, hc => by
    rw [List.pairwise_cons] at hp
    have hee := hp.1 e' (List.mem_cons_self)
    have he := hE e (List.mem_cons_self)
    have he' := hE e' (List.mem_cons_of_mem _ List.mem_cons_self)
    have hE' := fun z hz => hE z (List.mem_cons_of_mem _ hz)
    have hle' : ∀ z ∈ e' :: t, e' ≤ z := fun z hz => by
      rcases List.mem_cons.1 hz with rfl | hz
      · exact Int.le_refl _
      · have := (List.pairwise_cons.1 hp.2).1 z hz
        exact Int.le_of_lt this
    obtain ⟨c1, c2, c3, c4⟩ := hc c rfl
    have c5 := c4 e (List.mem_cons_self)
    rw [gen]
    by_cases hpe : p e = true
    · rw [if_pos hpe]
      by_cases hce : c.f1 = e
      · rw [if_pos hce]
        obtain ⟨ha, hm⟩ := gen_spec p (e' :: t) (some ⟨c.f0, e'⟩) lo hp.2 hE' (fun d hd => by
          injection hd with hd
          subst hd
          exact ⟨c1, by simp; omega, he'.2, hle'⟩)
        refine ⟨ha, fun x => ?_⟩
        rw [hm x, inP, hpe, ← Bool.or_assoc]
        congr 1
        simp only [Option.toList_some, memS, List.any_cons, List.any_nil, Bool.or_false, hasS, Bool.true_and]
        rw [Bool.eq_iff_iff]
        simp
        omega
      · rw [if_neg hce]
        obtain ⟨ha, hm⟩ := gen_spec p (e' :: t) (some ⟨e, e'⟩) (c.f1 + 1) hp.2 (fun z hz => by
          have := hle' z hz
          exact ⟨by omega, (hE' z hz).2⟩) (fun d hd => by
          injection hd with hd
          subst hd
          exact ⟨by simp; omega, hee, he'.2, hle'⟩)
        refine ⟨⟨c1, c2, c3, ha⟩, fun x => ?_⟩
        rw [memS_cons, hm x, inP, hpe]
        simp [memS, hasS]
    · rw [if_neg hpe]
      obtain ⟨ha, hm⟩ := gen_spec p (e' :: t) (some c) lo hp.2 hE' (fun d hd => by
        injection hd with hd
        subst hd
        exact ⟨c1, c2, c3, fun z hz => c4 z (List.mem_cons_of_mem _ hz)⟩)
      refine ⟨ha, fun x => ?_⟩
      rw [hm x, inP, Bool.eq_false_iff.2 hpe]
      simp
/-- Between two ends that follow one another all numbers are alike. -/
theorem floor_mem (l : List S32) (e e' x : Int) (h : ∀ s ∈ l, (s.f0 ≤ e ∨ e' ≤ s.f0) ∧ (s.f1 ≤ e ∨ e' ≤ s.f1)) (h1 : e ≤ x) (h2 : x < e') : memS l x = memS l e := by
  rw [Bool.eq_iff_iff, memS_iff, memS_iff]
  constructor
  · rintro ⟨s, hs, hx⟩
    have := h s hs
    exact ⟨s, hs, by omega⟩
  · rintro ⟨s, hs, hx⟩
    have := h s hs
    exact ⟨s, hs, by omega⟩
theorem inP_floor (q : Bool → Bool → Bool) (hq : q false false = false) (a b : List S32) : ∀ (E : List Int), E.Pairwise (· < ·) → E ≠ [] →
    (∀ s, s ∈ a ∨ s ∈ b → (s.f0 ∈ E ∨ ∀ z ∈ E, s.f0 ≤ z) ∧ (s.f1 ∈ E ∨ ∀ z ∈ E, s.f1 ≤ z)) → ∀ x, (∃ e ∈ E.head?, e ≤ x) → inP (fun e => q (memS a e) (memS b e)) E x = q (memS a x) (memS b x)
  | [], _, h, _, _, _ => absurd rfl h
  | [e], _, _, h, x, ⟨e0, he0, hx⟩ => by
    simp at he0
    subst he0
    have key : ∀ l : List S32, (∀ s ∈ l, s ∈ a ∨ s ∈ b) → memS l x = false := fun l hl => by
      rw [← Bool.not_eq_true, memS_iff]
      rintro ⟨s, hs, hsx⟩
      have := (h s (hl s hs)).2
      rcases this with this | this
      · simp at this; omega
      · have := this e (List.mem_cons_self); omega
    rw [key a (fun s hs => .inl hs), key b (fun s hs => .inr hs), hq]
    rfl
  | e :: e' :: t, hp, _, h, x, ⟨e0, he0, hx⟩ => by
    simp at he0
    subst he0
    rw [List.pairwise_cons] at hp
    have hlow : ∀ z ∈ e' :: t, e' ≤ z := fun z hz => by
      rcases List.mem_cons.1 hz with rfl | hz
      · exact Int.le_refl _
      · have := (List.pairwise_cons.1 hp.2).1 z hz
        exact Int.le_of_lt this
    have hee := hp.1 e' (List.mem_cons_self)
    have side : ∀ v : Int, (v ∈ e :: e' :: t ∨ ∀ z ∈ e :: e' :: t, v ≤ z) → v ≤ e ∨ e' ≤ v := fun v hv => by
      rcases hv with hv | hv
      · rcases List.mem_cons.1 hv with rfl | hv
        · exact .inl (Int.le_refl _)
        · exact .inr (hlow v hv)
      · exact .inl (hv e (List.mem_cons_self))
    rw [inP]
    by_cases hx' : x < e'
    · rw [inP_low _ (e' :: t) x (fun z hz => by have := hlow z hz; omega), decide_eq_true hx, decide_eq_true hx']
      rw [floor_mem a e e' x (fun s hs => ⟨side _ (h s (.inl hs)).1, side _ (h s (.inl hs)).2⟩) hx hx', floor_mem b e e' x (fun s hs => ⟨side _ (h s (.inr hs)).1, side _ (h s (.inr hs)).2⟩) hx hx']
      simp
    · rw [decide_eq_false hx', Bool.and_false, Bool.and_false, Bool.false_or]
      refine inP_floor q hq a b (e' :: t) hp.2 (by simp) (fun s hs => ?_) x ⟨e', by simp, by omega⟩
      have step : ∀ v : Int, (v ∈ e :: e' :: t ∨ ∀ z ∈ e :: e' :: t, v ≤ z) → v ∈ e' :: t ∨ ∀ z ∈ e' :: t, v ≤ z := fun v hv => by
        rcases hv with hv | hv
        · rcases List.mem_cons.1 hv with rfl | hv
          · exact .inr (fun z hz => Int.le_of_lt (hp.1 z hz))
          · exact .inl hv
        · exact .inr (fun z hz => hv z (List.mem_cons_of_mem _ hz))
      exact ⟨step _ (h s hs).1, step _ (h s hs).2⟩
/-- WHAT THE PIECES COME TO. -/
theorem inP_ends (q : Bool → Bool → Bool) (hq : q false false = false) (a b : List S32) (hv : ∀ s, s ∈ a ∨ s ∈ b → s.f0 < s.f1) (E : List Int) (hp : E.Pairwise (· < ·)) (hE : ∀ s, s ∈ a ∨ s ∈ b → s.f0 ∈ E ∧ s.f1 ∈ E) (x : Int) :
    inP (fun e => q (memS a e) (memS b e)) E x = q (memS a x) (memS b x) := by
  have low : (∀ e ∈ E, x < e) → inP (fun e => q (memS a e) (memS b e)) E x = q (memS a x) (memS b x) := fun hlow => by
    have key : ∀ l : List S32, (∀ s ∈ l, s ∈ a ∨ s ∈ b) → memS l x = false := fun l hl => by
      rw [← Bool.not_eq_true, memS_iff]
      rintro ⟨s, hs, hsx⟩
      have := hlow _ (hE s (hl s hs)).1
      omega
    rw [inP_low _ E x hlow, key a (fun s hs => .inl hs), key b (fun s hs => .inr hs), hq]
  rcases E with _ | ⟨e, t⟩
  · exact low (fun e he => absurd he (by simp))
  · by_cases hx : e ≤ x
    · exact inP_floor q hq a b (e :: t) hp (by simp) (fun s hs => ⟨.inl (hE s hs).1, .inl (hE s hs).2⟩) x ⟨e, by simp, hx⟩
    · refine low (fun z hz => ?_)
      rcases List.mem_cons.1 hz with rfl | hz
      · omega
      · have := (List.pairwise_cons.1 hp).1 z hz
        omega
def keepsB (kind : Int) (a b : Bool) : Bool := if kind = 0 then a || b else if kind = 1 then a && b else a && !b
theorem keeps_f (kind : Int) (a b : Bool) : kimberliteref01_keeps.f kind a b = some (keepsB kind a b) := by
  unfold kimberliteref01_keeps.f keepsB
  cases a <;> cases b <;> by_cases h0 : kind = 0 <;> by_cases h1 : kind = 1 <;> simp [h0, h1]
theorem keepsB_ff (kind : Int) : keepsB kind false false = false := by
  unfold keepsB
  by_cases h0 : kind = 0 <;> by_cases h1 : kind = 1 <;> simp [h0, h1]
end Go.Proofs.Ytningpmoojnomaa.Pr
end
section
namespace Go.Proofs.Ytningpmoojnomaa.Pr
open Go.RowKit Go.Proofs.YtningpmoojnomaaW.PrintWords Go.Proofs.YtningpmoojnomaaW.PrintLast Go.Proofs.YtningpmoojnomaaW.PrintMore
set_option linter.unusedVariables false
set_option linter.unusedSimpArgs false
def keepP (kind : Int) (a b : List S32) (e : Int) : Bool := keepsB kind (memS a e) (memS b e)
theorem drop2 (E : List Int) (i : Nat) (h : i + 1 < E.length) : E.drop i = rd E (i : Int) :: rd E ((i + 1 : Nat) : Int) :: E.drop (i + 2) := by
  rw [dropI E i (by omega), dropI E (i + 1) h]
theorem gen_short (p : Int → Bool) (E : List Int) (cur : Option S32) (h : E.length ≤ 1) : gen p E cur = cur.toList := by
  rcases E with _ | ⟨e, _ | ⟨e', t⟩⟩
  · simp [gen]
  · simp [gen]
  · simp at h
theorem made_l2 (kind : Int) (a b : List S32) (ha : a.length ≤ 1000) (hb : b.length ≤ 1000) (E : List Int) (hE : E.length ≤ 1000000) : ∀ (d i : Nat), E.length - i = d → i ≤ E.length →
    Ev (fun k => kimberliteref01_Made.l2 k kind a b E [] (i : Int)) (gen (keepP kind a b) (E.drop i) none) ∧
    ∀ (p : List S32) (c : S32), p.length + 1 ≤ i → Ev (fun k => kimberliteref01_Made.l2 k kind a b E (p ++ [c]) (i : Int)) (p ++ gen (keepP kind a b) (E.drop i) (some c))
  | d, i, h, hi' => by
    by_cases hi : i + 1 < E.length
    · match d, h with
      | 0, h => omega
      | d + 1, h =>
        obtain ⟨ihn, ihs⟩ := made_l2 kind a b ha hb E hE d (i + 1) (by omega) (by omega)
        have hw := wrap_succ (i := i) (n := E.length) (by omega) (by omega)
        rw [drop2 E i hi]
        rw [dropI E (i + 1) hi] at ihn ihs
        have kp : keepsB kind (memS a (rd E (i : Int))) (memS b (rd E (i : Int))) = keepP kind a b (rd E (i : Int)) := rfl
        constructor
        · refine Ev.step (f := fun k => (kimberliteref01_in.f k a (rd E (i : Int))).bind fun t195 => ((kimberliteref01_in.f k b (rd E (i : Int))).bind fun t197 => ((kimberliteref01_keeps.f kind t195 t197).bind fun t198 => (if t198 = true then kimberliteref01_Made.l2 k kind a b E ([⟨rd E (i : Int), rd E ((i + 1 : Nat) : Int)⟩]) ((i + 1 : Nat) : Int) else kimberliteref01_Made.l2 k kind a b E [] ((i + 1 : Nat) : Int))))) (fun k => ?_) ?_
          · simp only [kimberliteref01_Made.l2]
            rw [hw, if_pos (by omega), if_pos (by omega), if_pos (by omega)]
            simp
            rfl
          · refine Ev.bind (refIn_ev a _ (by omega)) (Ev.bind (refIn_ev b _ (by omega)) ?_)
            show Ev (fun k => (kimberliteref01_keeps.f kind (memS a (rd E (i : Int))) (memS b (rd E (i : Int)))).bind _) _
            rw [keeps_f, kp, gen]
            simp only [Option.bind_some]
            by_cases hk : keepP kind a b (rd E (i : Int)) = true
            · simp only [if_pos hk]
              exact ihs [] _ (by simp)
            · simp only [if_neg hk]
              exact ihn
        · intro p c hp
          have hl := len_last p c (by omega)
          have hlen : (((p ++ [c]).length : Nat) : Int) = (p.length : Int) + 1 := by simp
          refine Ev.step (f := fun k => (kimberliteref01_in.f k a (rd E (i : Int))).bind fun t195 => ((kimberliteref01_in.f k b (rd E (i : Int))).bind fun t197 => ((kimberliteref01_keeps.f kind t195 t197).bind fun t198 => (if t198 = true then (if c.f1 = rd E (i : Int) then kimberliteref01_Made.l2 k kind a b E (p ++ [⟨c.f0, rd E ((i + 1 : Nat) : Int)⟩]) ((i + 1 : Nat) : Int) else kimberliteref01_Made.l2 k kind a b E (p ++ [c] ++ [⟨rd E (i : Int), rd E ((i + 1 : Nat) : Int)⟩]) ((i + 1 : Nat) : Int)) else kimberliteref01_Made.l2 k kind a b E (p ++ [c]) ((i + 1 : Nat) : Int))))) (fun k => ?_) ?_
          · simp only [kimberliteref01_Made.l2]
            rw [hw, if_pos (by omega), if_pos (by omega), if_pos (by omega), hl, rd_last, Int.toNat_natCast, set_last]
            rw [if_pos (show (((p ++ [c]).length : Nat) : Int) > 0 by omega), if_pos (show (0 : Int) ≤ (p.length : Int) by omega), if_pos (show ((p.length : Nat) : Int) < ((p ++ [c]).length : Nat) by omega), if_pos (show (0 : Int) ≤ ((i + 1 : Nat) : Int) by omega), if_pos (show (0 : Int) ≤ ((i + 1 : Nat) : Int) by omega), if_pos (show (p ++ [c]).length < 8796093022208 by omega)]
          · refine Ev.bind (refIn_ev a _ (by omega)) (Ev.bind (refIn_ev b _ (by omega)) ?_)
            show Ev (fun k => (kimberliteref01_keeps.f kind (memS a (rd E (i : Int))) (memS b (rd E (i : Int)))).bind _) _
            rw [keeps_f, kp, gen]
            simp only [Option.bind_some]
            by_cases hk : keepP kind a b (rd E (i : Int)) = true
            · simp only [if_pos hk]
              by_cases hc : c.f1 = rd E (i : Int)
              · simp only [if_pos hc]
                exact ihs p _ (by omega)
              · simp only [if_neg hc]
                have := ihs (p ++ [c]) ⟨rd E (i : Int), rd E ((i + 1 : Nat) : Int)⟩ (by simp; omega)
                rw [List.append_assoc p [c] (gen _ _ _), List.singleton_append] at this
                exact this
            · simp only [if_neg hk]
              exact ihs p c (by omega)
    · have hs : (E.drop i).length ≤ 1 := by rw [List.length_drop]; omega
      have hw : ¬ wrap64 ((i : Int) + 1) < (E.length : Int) := by unfold wrap64; omega
      rw [gen_short _ _ _ hs]
      refine ⟨Ev.step (f := fun _ => some []) (fun k => by simp only [kimberliteref01_Made.l2]; rw [if_neg hw]) (Ev.now _), fun p c hp => ?_⟩
      rw [gen_short _ _ _ hs]
      exact Ev.step (f := fun _ => some (p ++ [c])) (fun k => by simp only [kimberliteref01_Made.l2]; rw [if_neg hw]) (Ev.now _)
/-- The ends of two lists of spans, ascending. -/
def ends2 (a b : List S32) : List Int := endsL (endsL [] a) b
def madeL (kind : Int) (a b : List S32) : List S32 := gen (keepP kind a b) (ends2 a b) none
theorem made_ev (kind : Int) (a b : List S32) (ha : a.length ≤ 1000) (hb : b.length ≤ 1000) : Ev (fun k => kimberliteref01_Made.f k kind a b) (madeL kind a b) := by
  obtain ⟨p1, m1, n1⟩ := endsL_spec a [] List.Pairwise.nil
  obtain ⟨p2, m2, n2⟩ := endsL_spec b _ p1
  have e2 := (made_l2 kind a b ha hb (ends2 a b) (by unfold ends2; simp at n1; omega) _ 0 rfl (by omega)).1
  refine made_l0 kind a b _ ha _ 0 [] rfl List.Pairwise.nil (by simp) (by simp) ?_
  refine made_l1 kind a b _ hb (2 * a.length) (by omega) _ 0 _ rfl p1 (by simpa using n1) (by omega) ?_
  exact e2
/-- WHAT MADE IS: ascending, with the numbers that the kind keeps. -/
theorem made_spec (kind : Int) (a b : List S32) (hv : ∀ s, s ∈ a ∨ s ∈ b → -1099511627776 ≤ s.f0 ∧ s.f0 < s.f1 ∧ s.f1 ≤ 1099511627776) :
    Asc (-1099511627776) (madeL kind a b) ∧ ∀ x, memS (madeL kind a b) x = keepsB kind (memS a x) (memS b x) := by
  obtain ⟨p1, m1, n1⟩ := endsL_spec a [] List.Pairwise.nil
  obtain ⟨p2, m2, n2⟩ := endsL_spec b _ p1
  have hin : ∀ z ∈ ends2 a b, -1099511627776 ≤ z ∧ z ≤ 1099511627776 := fun z hz => by
    rcases (m2 z).1 hz with hz | ⟨s, hs, hz⟩
    · rcases (m1 z).1 hz with hz | ⟨s, hs, hz⟩
      · cases hz
      · have := hv s (.inl hs); rcases hz with rfl | rfl <;> omega
    · have := hv s (.inr hs); rcases hz with rfl | rfl <;> omega
  obtain ⟨ha, hm⟩ := gen_spec (keepP kind a b) (ends2 a b) none (-1099511627776) p2 hin (fun c hc => by cases hc)
  refine ⟨ha, fun x => ?_⟩
  show memS (gen _ _ none) x = _
  rw [hm x]
  have := inP_ends (keepsB kind) (keepsB_ff kind) a b (fun s hs => (hv s hs).2.1) (ends2 a b) p2 (fun s hs => by
    rcases hs with hs | hs
    · exact ⟨(m2 _).2 (.inl ((m1 _).2 (.inr ⟨s, hs, .inl rfl⟩))), (m2 _).2 (.inl ((m1 _).2 (.inr ⟨s, hs, .inr rfl⟩)))⟩
    · exact ⟨(m2 _).2 (.inr ⟨s, hs, .inl rfl⟩), (m2 _).2 (.inr ⟨s, hs, .inr rfl⟩)⟩) x
  simp only [Option.toList_none]
  rw [show memS [] x = false from rfl, Bool.false_or]
  exact this
theorem memS_nil (x : Int) : memS [] x = false := rfl
theorem clone_f {l : List S32} (h : l.length ≤ 128) : clone_Span.f l = some l := by unfold clone_Span.f; rw [if_pos (by omega)]
end Go.Proofs.Ytningpmoojnomaa.Pr
end
section
namespace Go.Proofs.Ytningpmoojnomaa.Pr
open Go.RowKit Go.Proofs.YtningpmoojnomaaW.PrintWords Go.Proofs.YtningpmoojnomaaW.PrintLast Go.Proofs.YtningpmoojnomaaW.PrintMore
attribute [local go_sem] max2_int min2_int max_two min_two max_three min_three max_four min_four   -- for this text's walks alone
set_option linter.unusedVariables false
set_option linter.unusedSimpArgs false
def kimberliteref01_grown.l0 : Nat → List (S32) → Int → List (S32) → Int → Option ((List (S32)))
 | 0, _, _, _, _ => none
 | k + 1, x0, x1, x5, x6 => if x6 < (x0.length : Int) then (if 0 ≤ x6 then (if x5.length < 8796093022208 then (kimberliteref01_grown.l0 k x0 x1 (x5 ++ [(⟨mx (-1099511627776) (wrap64 (((rd_T32 x0 x6).f0) - x1)), mn 1099511627776 (wrap64 (((rd_T32 x0 x6).f1) + x1))⟩ : S32)]) (wrap64 (x6 + 1))) else (none)) else (none)) else ((kimberliteref01_Made.f k 0 x5 ([] : List (S32))).bind fun t237 => (some t237))
def kimberliteref01_grown.f (k : Nat) (l0 : List (S32)) (a1 : Int) : Option ((List (S32))) := kimberliteref01_grown.l0 k l0 a1 ([] : List (S32)) 0
theorem kimberliteref01_grown.mono_l : ∀ k, (∀ y0 y1 y2 y3, LeO (kimberliteref01_grown.l0 k y0 y1 y2 y3) (kimberliteref01_grown.l0 (k + 1) y0 y1 y2 y3))
 | 0 => fun _ _ _ _ r h => by simp [kimberliteref01_grown.l0] at h
 | k + 1 => by
  have ih0 := kimberliteref01_grown.mono_l k
  · intro y0 y1 y2 y3
    unfold kimberliteref01_grown.l0
    repeat' first
    | (with_reducible exact ih0 _ _ _ _)
    | (with_reducible exact kimberliteref01_Made.mono _ _ _ _)
    | (with_reducible exact LeO.refl _)
    | (with_reducible exact LeO.none _)
    | (with_reducible refine LeO.ite ?_ ?_)
    | (with_reducible refine LeO.bind ?_ (fun _ => ?_))
    | exact ih0 _ _ _ _
    | exact kimberliteref01_Made.mono _ _ _ _
    | exact LeO.none _
    | refine LeO.ite ?_ ?_
    | refine LeO.bind ?_ (fun _ => ?_)
theorem kimberliteref01_grown.mono : ∀ a0 a1 k, LeO (kimberliteref01_grown.f k a0 a1) (kimberliteref01_grown.f (k + 1) a0 a1) := by
 intro a0 a1 k
 have ih0 := kimberliteref01_grown.mono_l k
 unfold kimberliteref01_grown.f
 repeat' first
  | (with_reducible exact ih0 _ _ _ _)
  | (with_reducible exact kimberliteref01_Made.mono _ _ _ _)
  | (with_reducible exact LeO.refl _)
  | (with_reducible exact LeO.none _)
  | (with_reducible refine LeO.ite ?_ ?_)
  | (with_reducible refine LeO.bind ?_ (fun _ => ?_))
  | exact ih0 _ _ _ _
  | exact kimberliteref01_Made.mono _ _ _ _
  | exact LeO.none _
  | refine LeO.ite ?_ ?_
  | refine LeO.bind ?_ (fun _ => ?_)
def kimberliteref01_grown.T5 : Bool × List (List Nat × List Nat) := (true, [([], []), ([], []), ([], []), ([1, 2], [1, 2]), ([3], [3]), ([4], [4]), ([], []), ([5, 6], [5, 6]), ([7], [7]), ([], []), ([], []), ([9, 10], [9, 10]), ([11], [11]), ([12], [12]), ([], []), ([13, 14], [13, 14]), ([15], [15]), ([8, 16], [8, 16]), ([17], [17]), ([0, 18], [0, 18]), ([19, 19, 0, 1, 2, 3, 4, 5, 6, 7, 8, 9, 10, 11, 12, 13, 14, 15, 16, 17, 18, 19], [0, 19])])
def kimberliteref01_grown.B5 : List Nat := [0, 0, 0, 6, 14, 30, 0, 126, 254, 0, 0, 1536, 3584, 7680, 0, 32256, 65024, 131070, 262142, 524287, 1048575]
theorem kimberliteref01_grown.tab5 : rtab .any (opsOf Try.f77 5) = kimberliteref01_grown.T5 := by kernel_rfl
theorem kimberliteref01_grown.bits5 : waitsOk kimberliteref01_grown.T5.2 kimberliteref01_grown.B5 = true := by kernel_rfl
set_option maxHeartbeats 8000000 in
set_option maxRecDepth 100000 in
theorem kimberliteref01_grown.calls (k : Nat) (A0 : Option Addr) (c0 : Nat) (l0 : List (S32)) (a1 : Int) (r : List (S32)) (w : World) (hr0 : Kd.C k32 w A0 l0.length l0) (hc0 : l0.length ≤ c0) (h : kimberliteref01_grown.f k l0 a1 = some r) :
 Calls Try.prog 77 #[.slice A0 l0.length c0, .int .i64 a1] w fun e w' => ∃ v0_ : Value, e = .returned (v0_) ∧ Kd.R k32 32 w' w.heap.size (fun _ => True) v0_ r ∧ Below w.heap.size w w' := by
 have hu32 := Try.underlying32
 have HR0 := Aside0.mk hr0
 have HC0 := Aside0.mk hc0
 clear hr0 hc0
 have HB := Aside0.mk (Below.refl w.heap.size w)
 have H : (kimberliteref01_grown.l0 k l0 a1 ([] : List (S32)) 0) = some r := h
 clear h
 have H' := Aside0.mk H
 clear H
 go_enter Try.func77, Try.ntmps77
 go_wp2
 go_loopg [5, 6] k (fun kq v5 v6 w' => ∃ (x5_1 : List (S32)) (x6_1 : Int), v6 = .int .i64 x6_1 ∧ Aside0 (kimberliteref01_grown.l0 kq l0 a1 x5_1 x6_1 = some r) ∧ Aside0 (kq ≤ k) ∧ Aside0 (Kd.R k32 32 w' w.heap.size (fun _ => True) v5 x5_1) ∧ Aside0 (Below w.heap.size w w'))
 case atStart => exact ⟨(([] : List (S32))), (0), (by first | rfl | (simp; done) | (simp [*]; done)), H', ⟨Nat.le_refl _⟩, ⟨by first | exact Kd.R_nil _ _ _ _ _ | exact Kd.N_nil _ _ _ _ _ | exact Kd.V_nil _ _ _ _ _ | exact Kd.Q_nil _ _ _ _ _ | exact Kd.S_nil _ _ _ _ _⟩, ⟨by repeat (first | (with_reducible first | exact HB.out | apply below_alloc | apply pw_below_drewN | apply below_drew1) | exact HB.out)⟩⟩
 case round =>
  clear H'
  try clear p2
  obtain ⟨x5_1, x6_1, rfl, HA, HK1, HO_5, HB⟩ := hrel
  cases gk with
  | zero => exact absurd HA.out (by simp [kimberliteref01_grown.l0])
  | succ k1 =>
   have H := HA.out
   clear HA
   simp only [kimberliteref01_grown.l0] at H
   by_cases c3 : x6_1 < (l0.length : Int)
   · rw [if_pos c3] at H
     have c3b0 : decide (x6_1 < (l0.length : Int)) = true := decide_eq_true c3
     clear c3
     by_cases c4 : 0 ≤ x6_1
     · rw [if_pos c4] at H
       have c4b0 : decide (0 ≤ x6_1) = true := decide_eq_true c4
       clear c4
       obtain ⟨ji5, hji5⟩ : ∃ j_ : Int, (mx (-1099511627776) (wrap64 (((rd_T32 l0 x6_1).f0) - a1))) = j_ := ⟨_, rfl⟩
       replace H : (if x5_1.length < 8796093022208 then (kimberliteref01_grown.l0 k1 l0 a1 (x5_1 ++ [(⟨ji5, mn 1099511627776 (wrap64 (((rd_T32 l0 x6_1).f1) + a1))⟩ : S32)]) (wrap64 (x6_1 + 1))) else (none)) = some r := by first | (rw [hji5] at H; exact H) | (simp only [hji5] at H ⊢; exact H)
       have hji5_ : (if (-1099511627776) < (wrap64 (((rd_T32 l0 x6_1).f0) - a1)) then (wrap64 (((rd_T32 l0 x6_1).f0) - a1)) else (-1099511627776)) = ji5 := hji5
       obtain ⟨ji6, hji6⟩ : ∃ j_ : Int, (mn 1099511627776 (wrap64 (((rd_T32 l0 x6_1).f1) + a1))) = j_ := ⟨_, rfl⟩
       replace H : (if x5_1.length < 8796093022208 then (kimberliteref01_grown.l0 k1 l0 a1 (x5_1 ++ [(⟨ji5, ji6⟩ : S32)]) (wrap64 (x6_1 + 1))) else (none)) = some r := by first | (rw [hji6] at H; exact H) | (simp only [hji6] at H ⊢; exact H)
       have hji6_ : (if (wrap64 (((rd_T32 l0 x6_1).f1) + a1)) < 1099511627776 then (wrap64 (((rd_T32 l0 x6_1).f1) + a1)) else 1099511627776) = ji6 := hji6
       by_cases c7 : x5_1.length < 8796093022208
       · rw [if_pos c7] at H
         have LMc7 := Aside0.mk c7
         clear c7
         obtain ⟨y234, hy234⟩ : ∃ y_ : List (S32), y_ = (x5_1 ++ [(⟨ji5, ji6⟩ : S32)]) := ⟨_, rfl⟩
         replace H : (kimberliteref01_grown.l0 k1 l0 a1 y234 (wrap64 (x6_1 + 1))) = some r := by first | (rw [hy234]; with_reducible exact H) | (have H2_ := (Option.bind_some _ _).symm.trans H; rw [hy234]; with_reducible exact H2_) | (have H2_ := (Option.bind_some _ _).symm.trans H; with_reducible exact H2_) | with_reducible exact H | (rw [hy234]; exact H) | exact H
         have Ny234 := Aside0.mk hy234
         clear hy234
         have H' := Aside0.mk H
         clear H
         try go_wp2
         have n0_ := Aside0.mk (Kd.R_drew HO_5.out)
         have n1_ := Aside0.mk (below_drew1 HB.out)
         clear HO_5
         clear HB
         have HO_5 := n0_
         have HB := n1_
         clear n0_ n1_
         have p232 : 0 ≤ (x6_1 : Int) := of_decide_eq_true (by first | (with_reducible assumption) | assumption)
         have q232 : x6_1 < (l0.length : Int) := of_decide_eq_true (by first | (with_reducible assumption) | assumption)
         obtain ⟨ad232, e232, hx232_0, hx232_1⟩ := at_T32 HR0.out x6_1 p232 q232
         have hw232_1 := hx232_1
         have hw232_0 := hx232_0
         cases e232
         replace hx232_0 := (HB.out.cell (World.block_lt_of_cell? w _ hx232_0)).trans hx232_0
         replace hx232_1 := (HB.out.cell (World.block_lt_of_cell? w _ hx232_1)).trans hx232_1
         replace p232 := eq_true p232
         replace q232 := eq_true q232
         have p233 : 0 ≤ (x6_1 : Int) := of_decide_eq_true (by first | (with_reducible assumption) | assumption)
         have q233 : x6_1 < (l0.length : Int) := of_decide_eq_true (by first | (with_reducible assumption) | assumption)
         obtain ⟨ad233, e233, hx233_0, hx233_1⟩ := at_T32 HR0.out x6_1 p233 q233
         have hw233_1 := hx233_1
         have hw233_0 := hx233_0
         obtain rfl : ad232 = ad233 := (by injection e233)
         replace hx233_0 := (HB.out.cell (World.block_lt_of_cell? w _ hx233_0)).trans hx233_0
         replace hx233_1 := (HB.out.cell (World.block_lt_of_cell? w _ hx233_1)).trans hx233_1
         replace p233 := eq_true p233
         replace q233 := eq_true q233
         refine start_ (n := 21) (S := fun w' => w'.cell? (ad232.add ((x6_1).toNat * 2)) = some (.int .i64 ((rd_T32 l0 x6_1).f0)) ∧ w'.cell? ⟨(ad232.add ((x6_1).toNat * 2)).block, (ad232.add ((x6_1).toNat * 2)).off + 1, none⟩ = some (.int .i64 ((rd_T32 l0 x6_1).f1)) ∧ w'.cell? (ad232.add ((x6_1).toNat * 2)) = some (.int .i64 ((rd_T32 l0 x6_1).f0)) ∧ w'.cell? ⟨(ad232.add ((x6_1).toNat * 2)).block, (ad232.add ((x6_1).toNat * 2)).off + 1, none⟩ = some (.int .i64 ((rd_T32 l0 x6_1).f1))) (ds := []) #[false, false, false, false, false, false, false, false, false, false, false, false, false, false, false, false, false, false, false, false, false] (by kernel_rfl) rfl rfl ⟨((HB.out.cell (World.block_lt_of_cell? w _ hw232_0)).trans hw232_0), ((HB.out.cell (World.block_lt_of_cell? w _ hw232_1)).trans hw232_1), ((HB.out.cell (World.block_lt_of_cell? w _ hw233_0)).trans hw233_0), ((HB.out.cell (World.block_lt_of_cell? w _ hw233_1)).trans hw233_1)⟩ (fun hHeld => ?_); refine with_tabW kimberliteref01_grown.tab5 kimberliteref01_grown.bits5 (fun HT_ HW_ => ?_)
         generalize wr.drew = w8 at HO_5 HB hx232_0 hx232_1 hx233_0 hx233_1 hHeld ⊢
         refine pure_ (i := 0) (N := some 13) (v := ?_) (a' := ?_) #[true, false, false, false, false, false, false, false, false, false, false, false, false, false, false, false, false, false, false, false, false] rfl rfl (any_of HT_.out (by kernel_rfl)) (fun _ _ _ h => h) (Or.inl ⟨by rfl, ?_⟩) ?_ ?_
         rotate_left
         · intro w'
           go_simp
           with_reducible rfl
         rotate_left
         · simp only [Act.put, List.setIfInBounds_toArray, List.set_cons_zero, List.set_cons_succ, i64_w, i32_w]
           rfl
         refine pure_ (i := 1) (N := some 14) (v := ?_) (a' := ?_) #[true, true, false, false, false, false, false, false, false, false, false, false, false, false, false, false, false, false, false, false, false] rfl rfl (any_of HT_.out (by kernel_rfl)) (fun _ _ _ h => h) (Or.inl ⟨by rfl, ?_⟩) ?_ ?_
         rotate_left
         · intro w'
           go_simp
           with_reducible rfl
         rotate_left
         · simp only [Act.put, List.setIfInBounds_toArray, List.set_cons_zero, List.set_cons_succ, i64_w, i32_w]
           rfl
         refine pure_ (i := 2) (N := some 15) (v := ?_) (a' := ?_) #[true, true, true, false, false, false, false, false, false, false, false, false, false, false, false, false, false, false, false, false, false] rfl rfl (any_of HT_.out (by kernel_rfl)) (fun _ _ _ h => h) (Or.inl ⟨by rfl, ?_⟩) ?_ ?_
         rotate_left
         · intro w'
           go_simp
           with_reducible rfl
         rotate_left
         · simp only [Act.put, List.setIfInBounds_toArray, List.set_cons_zero, List.set_cons_succ, i64_w, i32_w]
           rfl
         refine pure_ (i := 3) (N := some 16) (v := ?_) (a' := ?_) #[true, true, true, true, false, false, false, false, false, false, false, false, false, false, false, false, false, false, false, false, false] rfl rfl (any_of HT_.out (by kernel_rfl)) (fun _ _ _ h => h) (Or.inl ⟨by rfl, ?_⟩) ?_ ?_
         rotate_left
         · intro w'
           go_simp
           with_reducible rfl
         rotate_left
         · simp only [Act.put, List.setIfInBounds_toArray, List.set_cons_zero, List.set_cons_succ, i64_w, i32_w]
           rfl
         refine pure_ (i := 4) (N := some 17) (v := ?_) (a' := ?_) #[true, true, true, true, true, false, false, false, false, false, false, false, false, false, false, false, false, false, false, false, false] rfl rfl (any_of HT_.out (by kernel_rfl)) (fun _ _ _ h => h) (Or.inl ⟨by rfl, ?_⟩) ?_ ?_
         rotate_left
         · intro w'
           go_simp
           with_reducible rfl
         rotate_left
         · simp only [Act.put, List.setIfInBounds_toArray, List.set_cons_zero, List.set_cons_succ, i64_w, i32_w]
           rfl
         refine pure_ (i := 6) (N := some 19) (v := ?_) (a' := ?_) #[true, true, true, true, true, false, true, false, false, false, false, false, false, false, false, false, false, false, false, false, false] rfl rfl (any_of HT_.out (by kernel_rfl)) (fun _ _ _ h => h) (Or.inl ⟨by rfl, ?_⟩) ?_ ?_
         rotate_left
         · intro w'
           go_simp
           with_reducible rfl
         rotate_left
         · simp only [Act.put, List.setIfInBounds_toArray, List.set_cons_zero, List.set_cons_succ, i64_w, i32_w]
           rfl
         refine pure_ (i := 9) (N := some 22) (v := ?_) (a' := ?_) #[true, true, true, true, true, false, true, false, false, true, false, false, false, false, false, false, false, false, false, false, false] rfl rfl (any_of HT_.out (by kernel_rfl)) (fun _ _ _ h => h) (Or.inl ⟨by rfl, ?_⟩) ?_ ?_
         rotate_left
         · intro w'
           go_simp
           with_reducible rfl
         rotate_left
         · simp only [Act.put, List.setIfInBounds_toArray, List.set_cons_zero, List.set_cons_succ, i64_w, i32_w]
           rfl
         refine pure_ (i := 10) (N := some 23) (v := ?_) (a' := ?_) #[true, true, true, true, true, false, true, false, false, true, true, false, false, false, false, false, false, false, false, false, false] rfl rfl (any_of HT_.out (by kernel_rfl)) (fun _ _ _ h => h) (Or.inl ⟨by rfl, ?_⟩) ?_ ?_
         rotate_left
         · intro w'
           go_simp
           with_reducible rfl
         rotate_left
         · simp only [Act.put, List.setIfInBounds_toArray, List.set_cons_zero, List.set_cons_succ, i64_w, i32_w]
           rfl
         refine pure_ (i := 11) (N := some 24) (v := ?_) (a' := ?_) #[true, true, true, true, true, false, true, false, false, true, true, true, false, false, false, false, false, false, false, false, false] rfl rfl (any_of HT_.out (by kernel_rfl)) (fun _ _ _ h => h) (Or.inl ⟨by rfl, ?_⟩) ?_ ?_
         rotate_left
         · intro w'
           go_simp
           with_reducible rfl
         rotate_left
         · simp only [Act.put, List.setIfInBounds_toArray, List.set_cons_zero, List.set_cons_succ, i64_w, i32_w]
           rfl
         refine pure_ (i := 12) (N := some 25) (v := ?_) (a' := ?_) #[true, true, true, true, true, false, true, false, false, true, true, true, true, false, false, false, false, false, false, false, false] rfl rfl (any_of HT_.out (by kernel_rfl)) (fun _ _ _ h => h) (Or.inl ⟨by rfl, ?_⟩) ?_ ?_
         rotate_left
         · intro w'
           go_simp
           with_reducible rfl
         rotate_left
         · simp only [Act.put, List.setIfInBounds_toArray, List.set_cons_zero, List.set_cons_succ, i64_w, i32_w]
           rfl
         refine pure_ (i := 14) (N := some 27) (v := ?_) (a' := ?_) #[true, true, true, true, true, false, true, false, false, true, true, true, true, false, true, false, false, false, false, false, false] rfl rfl (any_of HT_.out (by kernel_rfl)) (fun _ _ _ h => h) (Or.inl ⟨by rfl, ?_⟩) ?_ ?_
         rotate_left
         · intro w'
           go_simp
           with_reducible rfl
         rotate_left
         · simp only [Act.put, List.setIfInBounds_toArray, List.set_cons_zero, List.set_cons_succ, i64_w, i32_w]
           rfl
         refine take_ (i := 5) (N := some 18) (v := ?_) (a' := ?_) #[true, true, true, true, true, true, true, false, false, true, true, true, true, false, true, false, false, false, false, false, false] rfl rfl (take_ofW HT_.out HW_.out (by kernel_rfl)) (fun _ _ _ h => h) (Or.inl ⟨by rfl, ?_⟩) hHeld ?_ ?_
         rotate_left
         · rintro w' ⟨s0, s1, s2, s3⟩
           go_simp
           with_reducible rfl
         rotate_left
         · simp only [Act.put, List.setIfInBounds_toArray, List.set_cons_zero, List.set_cons_succ, i64_w, i32_w]
           rfl
         refine pure_ (i := 7) (N := some 20) (v := ?_) (a' := ?_) #[true, true, true, true, true, true, true, true, false, true, true, true, true, false, true, false, false, false, false, false, false] rfl rfl (any_of HT_.out (by kernel_rfl)) (fun _ _ _ h => h) (Or.inl ⟨by rfl, ?_⟩) ?_ ?_
         rotate_left
         · intro w'
           go_simp
           with_reducible rfl
         rotate_left
         · simp only [Act.put, List.setIfInBounds_toArray, List.set_cons_zero, List.set_cons_succ, i64_w, i32_w]
           rfl
         refine pure_ (i := 8) (N := some 21) (v := ?_) (a' := ?_) #[true, true, true, true, true, true, true, true, true, true, true, true, true, false, true, false, false, false, false, false, false] rfl rfl (any_of HT_.out (by kernel_rfl)) (fun _ _ _ h => h) (Or.inl ⟨by rfl, ?_⟩) ?_ ?_
         rotate_left
         · intro w'
           go_simp
           with_reducible rfl
         rotate_left
         · simp only [Act.put, List.setIfInBounds_toArray, List.set_cons_zero, List.set_cons_succ, i64_w, i32_w]
           rfl
         refine take_ (i := 13) (N := some 26) (v := ?_) (a' := ?_) #[true, true, true, true, true, true, true, true, true, true, true, true, true, true, true, false, false, false, false, false, false] rfl rfl (take_ofW HT_.out HW_.out (by kernel_rfl)) (fun _ _ _ h => h) (Or.inl ⟨by rfl, ?_⟩) hHeld ?_ ?_
         rotate_left
         · rintro w' ⟨s0, s1, s2, s3⟩
           go_simp
           with_reducible rfl
         rotate_left
         · simp only [Act.put, List.setIfInBounds_toArray, List.set_cons_zero, List.set_cons_succ, i64_w, i32_w]
           rfl
         refine pure_ (i := 15) (N := some 28) (v := ?_) (a' := ?_) #[true, true, true, true, true, true, true, true, true, true, true, true, true, true, true, true, false, false, false, false, false] rfl rfl (any_of HT_.out (by kernel_rfl)) (fun _ _ _ h => h) (Or.inl ⟨by rfl, ?_⟩) ?_ ?_
         rotate_left
         · intro w'
           go_simp
           with_reducible rfl
         rotate_left
         · simp only [Act.put, List.setIfInBounds_toArray, List.set_cons_zero, List.set_cons_succ, i64_w, i32_w]
           rfl
         refine pure_ (i := 16) (N := some 29) (v := ?_) (a' := ?_) #[true, true, true, true, true, true, true, true, true, true, true, true, true, true, true, true, true, false, false, false, false] rfl rfl (any_of HT_.out (by kernel_rfl)) (fun _ _ _ h => h) (Or.inl ⟨by rfl, ?_⟩) ?_ ?_
         rotate_left
         · intro w'
           go_simp
           with_reducible rfl
         rotate_left
         · simp only [Act.put, List.setIfInBounds_toArray, List.set_cons_zero, List.set_cons_succ, i64_w, i32_w]
           rfl
         refine pure_ (i := 17) (N := some 30) (v := ?_) (a' := ?_) #[true, true, true, true, true, true, true, true, true, true, true, true, true, true, true, true, true, true, false, false, false] rfl rfl (any_of HT_.out (by kernel_rfl)) (fun _ _ _ h => h) (Or.inl ⟨by rfl, ?_⟩) ?_ ?_
         rotate_left
         · intro w'
           go_simp
           with_reducible rfl
         rotate_left
         · simp only [Act.put, List.setIfInBounds_toArray, List.set_cons_zero, List.set_cons_succ, i64_w, i32_w]
           rfl
         refine one_ (i := 18) (N := some 31) #[true, true, true, true, true, true, true, true, true, true, true, true, true, true, true, true, true, true, true, false, false] rfl rfl (one_of HT_.out (by kernel_rfl)) (by decide) (fun K hK => ?_)
         refine value_ (w1 := ?_) (v := ?_) (by rfl) rfl ?_ ?_
         rotate_left 2
         · go_simp
           constructor
           · rfl
           · rfl
         refine hK.out _ _ ⟨(World.cell?_alloc_lt _ _ _ (World.block_lt_of_cell? _ _ (((HB.out.cell (World.block_lt_of_cell? w _ hw232_0)).trans hw232_0)))).trans (((HB.out.cell (World.block_lt_of_cell? w _ hw232_0)).trans hw232_0)), (World.cell?_alloc_lt _ _ _ (World.block_lt_of_cell? _ _ (((HB.out.cell (World.block_lt_of_cell? w _ hw232_1)).trans hw232_1)))).trans (((HB.out.cell (World.block_lt_of_cell? w _ hw232_1)).trans hw232_1)), (World.cell?_alloc_lt _ _ _ (World.block_lt_of_cell? _ _ (((HB.out.cell (World.block_lt_of_cell? w _ hw233_0)).trans hw233_0)))).trans (((HB.out.cell (World.block_lt_of_cell? w _ hw233_0)).trans hw233_0)), (World.cell?_alloc_lt _ _ _ (World.block_lt_of_cell? _ _ (((HB.out.cell (World.block_lt_of_cell? w _ hw233_1)).trans hw233_1)))).trans (((HB.out.cell (World.block_lt_of_cell? w _ hw233_1)).trans hw233_1))⟩ (fun hHeld => ?_)
         clear hK K
         refine norm_ (a' := ?_) ?_ ?_
         rotate_left
         · show Act.put _ (some 31) _ = _
           simp only [Act.put, List.setIfInBounds_toArray, List.set_cons_zero, List.set_cons_succ, i64_w, i32_w]
           rfl
         refine one_ (i := 19) (N := some 32) #[true, true, true, true, true, true, true, true, true, true, true, true, true, true, true, true, true, true, true, true, false] rfl rfl (one_of HT_.out (by kernel_rfl)) (by decide) (fun K hK => ?_)
         refine Kd.R_append_step k32 (w0 := w) w.heap.size (by rfl) (.tmp 13) (.tmp 31) 22 32 (.agg #[(.int .i64 0), (.int .i64 0)]) 16 rfl Try.underlying22 info32 rfl (by decide) (by omega) u5 x5_1 (⟨ji5, ji6⟩ : S32) [.int .i64 ji5, .int .i64 ji6] (fun _ => True) (fun _ => False) rfl rfl ?aP (fun _ hk => hk.elim) ?aF ?aO ?aB ?aS ?aL ?_
         (case aP => exact k32_mkM _ _ _ (⟨ji5, ji6⟩ : S32))
         (case aB => exact (by repeat (first | (with_reducible first | exact HB.out | apply below_alloc | apply pw_below_drewN | apply below_drew1) | exact HB.out)))
         (case aF => exact (fun _ _ => trivial))
         (case aO => exact (by (with_reducible repeat (first | apply Kd.R_alloc | apply Kd.R_drewN | apply Kd.R_drew)); exact HO_5.out))
         (case aS => exact (below_size (by repeat (first | (with_reducible first | exact HB.out | apply below_alloc | apply pw_below_drewN | apply below_drew1) | exact HB.out))))
         (case aL => have := LMc7.out; omega)
         intro v235 w9 ho hb hg hat
         rw [← Ny234.out] at ho
         have n0_ := Aside0.mk (hb)
         have n1_ := Aside0.mk (ho)
         clear HB
         clear HO_5
         have HB := n0_
         have HO236 := n1_
         clear n0_ n1_
         clear ho hb hg hat
         refine hK.out _ _ ⟨((HB.out.cell (World.block_lt_of_cell? w _ hw232_0)).trans hw232_0), ((HB.out.cell (World.block_lt_of_cell? w _ hw232_1)).trans hw232_1), ((HB.out.cell (World.block_lt_of_cell? w _ hw233_0)).trans hw233_0), ((HB.out.cell (World.block_lt_of_cell? w _ hw233_1)).trans hw233_1)⟩ (fun hHeld => ?_)
         clear hK K
         refine norm_ (a' := ?_) ?_ ?_
         rotate_left
         · show Act.put _ (some 32) _ = _
           simp only [Act.put, List.setIfInBounds_toArray, List.set_cons_zero, List.set_cons_succ, i64_w, i32_w]
           rfl
         refine pure_ (i := 20) (N := some 5) (v := ?_) (a' := ?_) #[true, true, true, true, true, true, true, true, true, true, true, true, true, true, true, true, true, true, true, true, true] rfl rfl (any_of HT_.out (by kernel_rfl)) (fun _ _ _ h => h) (Or.inl ⟨by rfl, ?_⟩) ?_ ?_
         rotate_left
         · intro w'
           go_simp
           with_reducible rfl
         rotate_left
         · simp only [Act.put, List.setIfInBounds_toArray, List.set_cons_zero, List.set_cons_succ, i64_w, i32_w]
           rfl
         refine done_ (done_of HT_.out (by kernel_rfl)) ?_
         try go_wp2
         go_roundg k1
         case measure => have := HK1.out; omega
         case rel => exact ⟨(y234), (wrap64 (x6_1 + 1)), (by first | rfl | (simp; done) | (simp [*]; done)), H', ⟨by have := HK1.out; omega⟩, ⟨by (with_reducible repeat (first | apply Kd.R_alloc | apply Kd.R_drewN | apply Kd.R_drew)); exact HO236.out⟩, ⟨by repeat (first | (with_reducible first | exact HB.out | apply below_alloc | apply pw_below_drewN | apply below_drew1) | exact HB.out)⟩⟩
       · rw [if_neg c7] at H
         exact absurd H (by simp)
     · rw [if_neg c4] at H
       exact absurd H (by simp)
   · rw [if_neg c3] at H
     have c3b0 : decide (x6_1 < (l0.length : Int)) = false := decide_eq_false c3
     clear c3
     replace H := Option.bind_eq_some_iff.mp H
     obtain ⟨t237, A100, H⟩ := H
     replace H : (some t237) = some r := H
     have A10 := Aside0.mk A100
     clear A100
     obtain rfl := Option.some.inj H
     obtain ⟨Ao11, co11, eo11⟩ := Kd.R_slice HO_5.out
     subst eo11
     go_wp2_with (first | ((with_reducible refine gate_callee (f := 63) rfl ?_); refine goesL_ (some 34) rfl rfl Try.func63 (by kernel_rfl) rfl #[.int .i64 0, .slice Ao11 x5_1.length co11, .slice none 0 0] rfl (by (try simp only [List.map_toArray, List.map_cons, List.map_nil]); first | done | rfl | (simp only [List.length_drop, List.length_take]; rfl)) ?_; (refine (kimberliteref01_Made.calls k1 0 _ _ x5_1 _ _ ([] : List (S32)) t237 _ ?side1 ?side2 ?side3 ?side4 A10.out).mono ?_); (case side1 => repeat (first | exact (Kd.R_reads' HO_5.out).2.2 | (with_reducible refine Kd.C_alloc ?_ _) | (with_reducible refine Kd.C_drewN ?_ _) | (with_reducible refine Kd.C_drew ?_))); (case side2 => exact (Kd.R_reads' HO_5.out).2.1); (case side3 => exact Kd.C_nil _ _); (case side4 => exact Nat.le_refl _); rintro e w12 ⟨v238, rfl, ho0, hb⟩; refine ⟨_, rfl, ?_⟩; have n0_ := Aside0.mk (Kd.R_elder' (by (with_reducible repeat (first | apply Kd.R_alloc | apply Kd.R_drewN | apply Kd.R_drew)); exact HO_5.out) (Kd.R_base ho0) hb); have n1_ := Aside0.mk (Kd.R_lower (Kd.R_new' ho0 (Kd.R_lt (by (with_reducible repeat (first | apply Kd.R_alloc | apply Kd.R_drewN | apply Kd.R_drew)); exact HO_5.out))) (below_size (by repeat (first | (with_reducible first | exact HB.out | apply below_alloc | apply pw_below_drewN | apply below_drew1) | exact HB.out)))); have n2_ := Aside0.mk (below_step (by repeat (first | (with_reducible first | exact HB.out | apply below_alloc | apply pw_below_drewN | apply below_drew1) | exact HB.out)) hb); clear HO_5; clear HB; have HO_5 := n0_; have HO239 := n1_; have HB := n2_; clear n0_ n1_ n2_; (try clear hb); (try clear hb2); (try clear hk); (try clear hi); (try clear ho0)))
     go_ret
     exact ⟨_, by first | rfl | (simp [errW_none, errW_some] <;> rfl) | (simp [*, errW_none, errW_some] <;> rfl), by (with_reducible repeat (first | apply Kd.R_alloc | apply Kd.R_drewN | apply Kd.R_drew)); exact Kd.R_mono HO239.out (fun _ hk => trivial), by repeat (first | (with_reducible first | exact HB.out | apply below_alloc | apply pw_below_drewN | apply below_drew1) | exact HB.out)⟩
def kimberliteref01_Grow.j0 : Nat → List (S32) → Int → Bool → Option ((List (S32)) × Int)
 | 0, _, _, _ => none
 | k + 1, x0, x1, x16 => if x16 = true then (some (([] : List (S32)), 2)) else ((kimberliteref01_grown.f k x0 x1).bind fun t241 => (some (t241, 0)))
def kimberliteref01_Grow.f (k : Nat) (l0 : List (S32)) (a1 : Int) : Option ((List (S32)) × Int) := (kimberliteref01_Valid.f k l0).bind fun t240 => (if t240 = true then (if a1 < 0 then (kimberliteref01_Grow.j0 k l0 a1 true) else (kimberliteref01_Grow.j0 k l0 a1 (decide (a1 > 1099511627776)))) else (kimberliteref01_Grow.j0 k l0 a1 true))
theorem kimberliteref01_Grow.mono_l : ∀ k, (∀ y0 y1 y2, LeO (kimberliteref01_Grow.j0 k y0 y1 y2) (kimberliteref01_Grow.j0 (k + 1) y0 y1 y2))
 | 0 => fun _ _ _ r h => by simp [kimberliteref01_Grow.j0] at h
 | k + 1 => by
  have ih0 := kimberliteref01_Grow.mono_l k
  · intro y0 y1 y2
    unfold kimberliteref01_Grow.j0
    repeat' first
    | (with_reducible exact ih0 _ _ _)
    | (with_reducible exact kimberliteref01_Valid.mono _ _)
    | (with_reducible exact kimberliteref01_grown.mono _ _ _)
    | (with_reducible exact LeO.refl _)
    | (with_reducible exact LeO.none _)
    | (with_reducible refine LeO.ite ?_ ?_)
    | (with_reducible refine LeO.bind ?_ (fun _ => ?_))
    | exact ih0 _ _ _
    | exact kimberliteref01_Valid.mono _ _
    | exact kimberliteref01_grown.mono _ _ _
    | exact LeO.none _
    | refine LeO.ite ?_ ?_
    | refine LeO.bind ?_ (fun _ => ?_)
theorem kimberliteref01_Grow.mono : ∀ a0 a1 k, LeO (kimberliteref01_Grow.f k a0 a1) (kimberliteref01_Grow.f (k + 1) a0 a1) := by
 intro a0 a1 k
 have ih0 := kimberliteref01_Grow.mono_l k
 unfold kimberliteref01_Grow.f
 repeat' first
  | (with_reducible exact ih0 _ _ _)
  | (with_reducible exact kimberliteref01_Valid.mono _ _)
  | (with_reducible exact kimberliteref01_grown.mono _ _ _)
  | (with_reducible exact LeO.refl _)
  | (with_reducible exact LeO.none _)
  | (with_reducible refine LeO.ite ?_ ?_)
  | (with_reducible refine LeO.bind ?_ (fun _ => ?_))
  | exact ih0 _ _ _
  | exact kimberliteref01_Valid.mono _ _
  | exact kimberliteref01_grown.mono _ _ _
  | exact LeO.none _
  | refine LeO.ite ?_ ?_
  | refine LeO.bind ?_ (fun _ => ?_)
set_option maxHeartbeats 8000000 in
set_option maxRecDepth 100000 in
theorem kimberliteref01_Grow.calls (k : Nat) (A0 : Option Addr) (c0 : Nat) (l0 : List (S32)) (a1 : Int) (r1 : List (S32)) (r2 : Int) (w : World) (hr0 : Kd.C k32 w A0 l0.length l0) (hc0 : l0.length ≤ c0) (h : kimberliteref01_Grow.f k l0 a1 = some (r1, r2)) :
 Calls Try.prog 39 #[.slice A0 l0.length c0, .int .i64 a1] w fun e w' => ∃ v0_ : Value, e = .returned (.tuple #[v0_, .int .i64 r2]) ∧ Kd.R k32 32 w' w.heap.size (fun _ => True) v0_ r1 ∧ Below w.heap.size w w' := by
 have HR0 := Aside0.mk hr0
 have HC0 := Aside0.mk hc0
 clear hr0 hc0
 have HB := Aside0.mk (Below.refl w.heap.size w)
 have H : ((kimberliteref01_Valid.f k l0).bind fun t240 => (if t240 = true then (if a1 < 0 then (kimberliteref01_Grow.j0 k l0 a1 true) else (kimberliteref01_Grow.j0 k l0 a1 (decide (a1 > 1099511627776)))) else (kimberliteref01_Grow.j0 k l0 a1 true))) = some (r1, r2) := h
 clear h
 have HC3 := Aside0.mk H
 clear H
 go_enter Try.func39, Try.ntmps39
 go_upto_region 1 with (fail)
 go_cut [16] (fun v16 wc => ∃ (kq : Nat) (x16_2 : Bool), v16 = .bool x16_2 ∧ Aside0 (kimberliteref01_Grow.j0 kq l0 a1 x16_2 = some (r1, r2)) ∧ Aside0 (kq ≤ k) ∧ Aside0 (Below w.heap.size w wc))
 case first =>
  have H := HC3.out
  clear HC3
  replace H := Option.bind_eq_some_iff.mp H
  obtain ⟨t240, A40, H⟩ := H
  replace H : (if t240 = true then (if a1 < 0 then (kimberliteref01_Grow.j0 k l0 a1 true) else (kimberliteref01_Grow.j0 k l0 a1 (decide (a1 > 1099511627776)))) else (kimberliteref01_Grow.j0 k l0 a1 true)) = some (r1, r2) := H
  have A4 := Aside0.mk A40
  clear A40
  by_cases c5 : t240 = true
  · subst c5
    have H1 : (if a1 < 0 then (kimberliteref01_Grow.j0 k l0 a1 true) else (kimberliteref01_Grow.j0 k l0 a1 (decide (a1 > 1099511627776)))) = some (r1, r2) := by rw [if_pos rfl] at H; exact H
    clear H
    have H := H1
    clear H1
    by_cases c6 : a1 < 0
    · rw [if_pos c6] at H
      have c6b0 : decide (a1 < 0) = true := decide_eq_true c6
      clear c6
      (first | rw [c6b0] | (simp only [i64_w, i32_w]; rw [c6b0]) | skip)
      have H' := Aside0.mk H
      clear H
      go_wp2_with (first | ((with_reducible refine gate_callee (f := 24) rfl ?_); refine goesL_ (some 7) rfl rfl Try.func24 (by kernel_rfl) rfl #[.slice A0 l0.length c0] rfl (by (try simp only [List.map_toArray, List.map_cons, List.map_nil]); first | done | rfl | (simp only [List.length_drop, List.length_take]; rfl)) ?_; (with_reducible refine (kimberliteref01_Valid.calls k _ _ l0 true _ ?side1 ?side2 A4.out).mono ?_); (case side1 => repeat (first | exact (Kd.C_below HR0.out HB.out) | (with_reducible refine Kd.C_alloc ?_ _) | (with_reducible refine Kd.C_drewN ?_ _) | (with_reducible refine Kd.C_drew ?_))); (case side2 => exact HC0.out); rintro e w7 ⟨rfl, hb⟩; refine ⟨_, rfl, ?_⟩; have n0_ := Aside0.mk (below_step (by repeat (first | (with_reducible first | exact HB.out | apply below_alloc | apply pw_below_drewN | apply below_drew1) | exact HB.out)) hb); clear HB; have HB := n0_; clear n0_; (try clear hb); (try clear hb2); (try clear hk); (try clear hi)))
      go_meet
      case rel => exact ⟨_, (true), (by first | rfl | (simp; done) | (simp [*]; done)), H', ⟨by first | omega | exact Nat.le_refl _⟩, ⟨by repeat (first | (with_reducible first | exact HB.out | apply below_alloc | apply pw_below_drewN | apply below_drew1) | exact HB.out)⟩⟩
    · rw [if_neg c6] at H
      have c6b0 : decide (a1 < 0) = false := decide_eq_false c6
      clear c6
      (first | rw [c6b0] | (simp only [i64_w, i32_w]; rw [c6b0]) | skip)
      have H' := Aside0.mk H
      clear H
      go_wp2_with (first | ((with_reducible refine gate_callee (f := 24) rfl ?_); refine goesL_ (some 7) rfl rfl Try.func24 (by kernel_rfl) rfl #[.slice A0 l0.length c0] rfl (by (try simp only [List.map_toArray, List.map_cons, List.map_nil]); first | done | rfl | (simp only [List.length_drop, List.length_take]; rfl)) ?_; (with_reducible refine (kimberliteref01_Valid.calls k _ _ l0 true _ ?side1 ?side2 A4.out).mono ?_); (case side1 => repeat (first | exact (Kd.C_below HR0.out HB.out) | (with_reducible refine Kd.C_alloc ?_ _) | (with_reducible refine Kd.C_drewN ?_ _) | (with_reducible refine Kd.C_drew ?_))); (case side2 => exact HC0.out); rintro e w8 ⟨rfl, hb⟩; refine ⟨_, rfl, ?_⟩; have n0_ := Aside0.mk (below_step (by repeat (first | (with_reducible first | exact HB.out | apply below_alloc | apply pw_below_drewN | apply below_drew1) | exact HB.out)) hb); clear HB; have HB := n0_; clear n0_; (try clear hb); (try clear hb2); (try clear hk); (try clear hi)))
      go_meet
      case rel => exact ⟨_, (decide (a1 > 1099511627776)), (by first | rfl | (simp; done) | (simp [*]; done)), H', ⟨by first | omega | exact Nat.le_refl _⟩, ⟨by repeat (first | (with_reducible first | exact HB.out | apply below_alloc | apply pw_below_drewN | apply below_drew1) | exact HB.out)⟩⟩
  · replace c5 := Bool.eq_false_iff.mpr c5
    subst c5
    have H1 : (kimberliteref01_Grow.j0 k l0 a1 true) = some (r1, r2) := by rw [if_neg (show ¬ (false = true) by decide)] at H; exact H
    clear H
    have H := H1
    clear H1
    have H' := Aside0.mk H
    clear H
    go_wp2_with (first | ((with_reducible refine gate_callee (f := 24) rfl ?_); refine goesL_ (some 7) rfl rfl Try.func24 (by kernel_rfl) rfl #[.slice A0 l0.length c0] rfl (by (try simp only [List.map_toArray, List.map_cons, List.map_nil]); first | done | rfl | (simp only [List.length_drop, List.length_take]; rfl)) ?_; (with_reducible refine (kimberliteref01_Valid.calls k _ _ l0 false _ ?side1 ?side2 A4.out).mono ?_); (case side1 => repeat (first | exact (Kd.C_below HR0.out HB.out) | (with_reducible refine Kd.C_alloc ?_ _) | (with_reducible refine Kd.C_drewN ?_ _) | (with_reducible refine Kd.C_drew ?_))); (case side2 => exact HC0.out); rintro e w9 ⟨rfl, hb⟩; refine ⟨_, rfl, ?_⟩; have n0_ := Aside0.mk (below_step (by repeat (first | (with_reducible first | exact HB.out | apply below_alloc | apply pw_below_drewN | apply below_drew1) | exact HB.out)) hb); clear HB; have HB := n0_; clear n0_; (try clear hb); (try clear hb2); (try clear hk); (try clear hi)))
    go_meet
    case rel => exact ⟨_, (true), (by first | rfl | (simp; done) | (simp [*]; done)), H', ⟨by first | omega | exact Nat.le_refl _⟩, ⟨by repeat (first | (with_reducible first | exact HB.out | apply below_alloc | apply pw_below_drewN | apply below_drew1) | exact HB.out)⟩⟩
 case rest =>
  clear HC3
  try clear c2
  try clear p2
  try clear c3
  try clear c5
  try clear c6
  try clear c6b0
  obtain ⟨kq, x16_2, rfl, HA, HJ2, HB⟩ := hcut
  cases kq with
  | zero => exact absurd HA.out (by simp [kimberliteref01_Grow.j0])
  | succ kj2 =>
   have H := HA.out
   clear HA
   simp only [kimberliteref01_Grow.j0] at H
   by_cases c10 : x16_2 = true
   · subst c10
     have H1 : (some (([] : List (S32)), 2)) = some (r1, r2) := by rw [if_pos rfl] at H; exact H
     clear H
     have H := H1
     clear H1
     simp only [Option.some.injEq, Prod.mk.injEq] at H
     obtain ⟨rfl, rfl⟩ := H
     go_wp2
     go_ret2
     exact ⟨_, by first | rfl | (simp [errW_none, errW_some] <;> rfl) | (simp [*, errW_none, errW_some] <;> rfl), by first | exact Kd.R_nil _ _ _ _ _ | exact Kd.N_nil _ _ _ _ _ | exact Kd.V_nil _ _ _ _ _ | exact Kd.Q_nil _ _ _ _ _ | exact Kd.S_nil _ _ _ _ _, by repeat (first | (with_reducible first | exact HB.out | apply below_alloc | apply pw_below_drewN | apply below_drew1) | exact HB.out)⟩
   · replace c10 := Bool.eq_false_iff.mpr c10
     subst c10
     have H1 : ((kimberliteref01_grown.f kj2 l0 a1).bind fun t241 => (some (t241, 0))) = some (r1, r2) := by rw [if_neg (show ¬ (false = true) by decide)] at H; exact H
     clear H
     have H := H1
     clear H1
     replace H := Option.bind_eq_some_iff.mp H
     obtain ⟨t241, A110, H⟩ := H
     replace H : (some (t241, 0)) = some (r1, r2) := H
     have A11 := Aside0.mk A110
     clear A110
     simp only [Option.some.injEq, Prod.mk.injEq] at H
     obtain ⟨rfl, rfl⟩ := H
     go_wp2_with (first | ((with_reducible refine gate_callee (f := 77) rfl ?_); refine goesL_ (some 19) rfl rfl Try.func77 (by kernel_rfl) rfl #[.slice A0 l0.length c0, .int .i64 a1] rfl (by (try simp only [List.map_toArray, List.map_cons, List.map_nil]); first | done | rfl | (simp only [List.length_drop, List.length_take]; rfl)) ?_; (with_reducible refine (kimberliteref01_grown.calls kj2 _ _ l0 a1 t241 _ ?side1 ?side2 A11.out).mono ?_); (case side1 => repeat (first | exact (Kd.C_below HR0.out HB.out) | (with_reducible refine Kd.C_alloc ?_ _) | (with_reducible refine Kd.C_drewN ?_ _) | (with_reducible refine Kd.C_drew ?_))); (case side2 => exact HC0.out); rintro e w12 ⟨v242, rfl, ho0, hb⟩; refine ⟨_, rfl, ?_⟩; have n0_ := Aside0.mk (Kd.R_lower ho0 (below_size (by repeat (first | (with_reducible first | exact HB.out | apply below_alloc | apply pw_below_drewN | apply below_drew1) | exact HB.out)))); have n1_ := Aside0.mk (below_step (by repeat (first | (with_reducible first | exact HB.out | apply below_alloc | apply pw_below_drewN | apply below_drew1) | exact HB.out)) hb); clear HB; have HO243 := n0_; have HB := n1_; clear n0_ n1_; (try clear hb); (try clear hb2); (try clear hk); (try clear hi); (try clear ho0)))
     go_ret2
     exact ⟨_, by first | rfl | (simp [errW_none, errW_some] <;> rfl) | (simp [*, errW_none, errW_some] <;> rfl), by (with_reducible repeat (first | apply Kd.R_alloc | apply Kd.R_drewN | apply Kd.R_drew)); exact HO243.out, by repeat (first | (with_reducible first | exact HB.out | apply below_alloc | apply pw_below_drewN | apply below_drew1) | exact HB.out)⟩
end Go.Proofs.Ytningpmoojnomaa.Pr
end
section
namespace Go.Proofs.Ytningpmoojnomaa.Pr
open Go.RowKit Go.Proofs.YtningpmoojnomaaW.PrintWords Go.Proofs.YtningpmoojnomaaW.PrintLast Go.Proofs.YtningpmoojnomaaW.PrintMore
attribute [local go_sem] max2_int min2_int max_two min_two max_three min_three max_four min_four   -- for this text's walks alone
set_option linter.unusedVariables false
set_option linter.unusedSimpArgs false
def kimberliteref01_Shrink.j0 : Nat → List (S32) → Int → Bool → Option ((List (S32)) × Int)
 | 0, _, _, _ => none
 | k + 1, x0, x1, x17 => if x17 = true then (some (([] : List (S32)), 2)) else ((kimberliteref01_Whole.f).bind fun bt245 => ((some (([(⟨bt245.1, bt245.2⟩ : S32)] : List (S32)) : List (S32))).bind fun y247 => ((kimberliteref01_Made.f k 2 y247 x0).bind fun t250 => ((kimberliteref01_grown.f k t250 x1).bind fun t253 => ((kimberliteref01_Made.f k 2 y247 t253).bind fun t256 => (some (t256, 0)))))))
def kimberliteref01_Shrink.f (k : Nat) (l0 : List (S32)) (a1 : Int) : Option ((List (S32)) × Int) := (kimberliteref01_Valid.f k l0).bind fun t244 => (if t244 = true then (if a1 < 0 then (kimberliteref01_Shrink.j0 k l0 a1 true) else (kimberliteref01_Shrink.j0 k l0 a1 (decide (a1 > 1099511627776)))) else (kimberliteref01_Shrink.j0 k l0 a1 true))
theorem kimberliteref01_Shrink.mono_l : ∀ k, (∀ y0 y1 y2, LeO (kimberliteref01_Shrink.j0 k y0 y1 y2) (kimberliteref01_Shrink.j0 (k + 1) y0 y1 y2))
 | 0 => fun _ _ _ r h => by simp [kimberliteref01_Shrink.j0] at h
 | k + 1 => by
  have ih0 := kimberliteref01_Shrink.mono_l k
  · intro y0 y1 y2
    unfold kimberliteref01_Shrink.j0
    repeat' first
    | (with_reducible exact ih0 _ _ _)
    | (with_reducible exact kimberliteref01_Made.mono _ _ _ _)
    | (with_reducible exact kimberliteref01_Valid.mono _ _)
    | (with_reducible exact kimberliteref01_grown.mono _ _ _)
    | (with_reducible exact LeO.refl _)
    | (with_reducible exact LeO.none _)
    | (with_reducible refine LeO.ite ?_ ?_)
    | (with_reducible refine LeO.bind ?_ (fun _ => ?_))
    | exact ih0 _ _ _
    | exact kimberliteref01_Made.mono _ _ _ _
    | exact kimberliteref01_Valid.mono _ _
    | exact kimberliteref01_grown.mono _ _ _
    | exact LeO.none _
    | refine LeO.ite ?_ ?_
    | refine LeO.bind ?_ (fun _ => ?_)
theorem kimberliteref01_Shrink.mono : ∀ a0 a1 k, LeO (kimberliteref01_Shrink.f k a0 a1) (kimberliteref01_Shrink.f (k + 1) a0 a1) := by
 intro a0 a1 k
 have ih0 := kimberliteref01_Shrink.mono_l k
 unfold kimberliteref01_Shrink.f
 repeat' first
  | (with_reducible exact ih0 _ _ _)
  | (with_reducible exact kimberliteref01_Made.mono _ _ _ _)
  | (with_reducible exact kimberliteref01_Valid.mono _ _)
  | (with_reducible exact kimberliteref01_grown.mono _ _ _)
  | (with_reducible exact LeO.refl _)
  | (with_reducible exact LeO.none _)
  | (with_reducible refine LeO.ite ?_ ?_)
  | (with_reducible refine LeO.bind ?_ (fun _ => ?_))
  | exact ih0 _ _ _
  | exact kimberliteref01_Made.mono _ _ _ _
  | exact kimberliteref01_Valid.mono _ _
  | exact kimberliteref01_grown.mono _ _ _
  | exact LeO.none _
  | refine LeO.ite ?_ ?_
  | refine LeO.bind ?_ (fun _ => ?_)
set_option maxHeartbeats 8000000 in
set_option maxRecDepth 100000 in
theorem kimberliteref01_Shrink.calls (k : Nat) (A0 : Option Addr) (c0 : Nat) (l0 : List (S32)) (a1 : Int) (r1 : List (S32)) (r2 : Int) (w : World) (hr0 : Kd.C k32 w A0 l0.length l0) (hc0 : l0.length ≤ c0) (h : kimberliteref01_Shrink.f k l0 a1 = some (r1, r2)) :
 Calls Try.prog 41 #[.slice A0 l0.length c0, .int .i64 a1] w fun e w' => ∃ v0_ : Value, e = .returned (.tuple #[v0_, .int .i64 r2]) ∧ Kd.R k32 32 w' w.heap.size (fun _ => True) v0_ r1 ∧ Below w.heap.size w w' := by
 have HR0 := Aside0.mk hr0
 have HC0 := Aside0.mk hc0
 clear hr0 hc0
 have HB := Aside0.mk (Below.refl w.heap.size w)
 have H : ((kimberliteref01_Valid.f k l0).bind fun t244 => (if t244 = true then (if a1 < 0 then (kimberliteref01_Shrink.j0 k l0 a1 true) else (kimberliteref01_Shrink.j0 k l0 a1 (decide (a1 > 1099511627776)))) else (kimberliteref01_Shrink.j0 k l0 a1 true))) = some (r1, r2) := h
 clear h
 have HC3 := Aside0.mk H
 clear H
 go_enter Try.func41, Try.ntmps41
 go_upto_region 1 with (fail)
 go_cut [17] (fun v17 wc => ∃ (kq : Nat) (x17_2 : Bool), v17 = .bool x17_2 ∧ Aside0 (kimberliteref01_Shrink.j0 kq l0 a1 x17_2 = some (r1, r2)) ∧ Aside0 (kq ≤ k) ∧ Aside0 (Below w.heap.size w wc))
 case first =>
  have H := HC3.out
  clear HC3
  replace H := Option.bind_eq_some_iff.mp H
  obtain ⟨t244, A40, H⟩ := H
  replace H : (if t244 = true then (if a1 < 0 then (kimberliteref01_Shrink.j0 k l0 a1 true) else (kimberliteref01_Shrink.j0 k l0 a1 (decide (a1 > 1099511627776)))) else (kimberliteref01_Shrink.j0 k l0 a1 true)) = some (r1, r2) := H
  have A4 := Aside0.mk A40
  clear A40
  by_cases c5 : t244 = true
  · subst c5
    have H1 : (if a1 < 0 then (kimberliteref01_Shrink.j0 k l0 a1 true) else (kimberliteref01_Shrink.j0 k l0 a1 (decide (a1 > 1099511627776)))) = some (r1, r2) := by rw [if_pos rfl] at H; exact H
    clear H
    have H := H1
    clear H1
    by_cases c6 : a1 < 0
    · rw [if_pos c6] at H
      have c6b0 : decide (a1 < 0) = true := decide_eq_true c6
      clear c6
      (first | rw [c6b0] | (simp only [i64_w, i32_w]; rw [c6b0]) | skip)
      have H' := Aside0.mk H
      clear H
      go_wp2_with (first | ((with_reducible refine gate_callee (f := 24) rfl ?_); refine goesL_ (some 8) rfl rfl Try.func24 (by kernel_rfl) rfl #[.slice A0 l0.length c0] rfl (by (try simp only [List.map_toArray, List.map_cons, List.map_nil]); first | done | rfl | (simp only [List.length_drop, List.length_take]; rfl)) ?_; (with_reducible refine (kimberliteref01_Valid.calls k _ _ l0 true _ ?side1 ?side2 A4.out).mono ?_); (case side1 => repeat (first | exact (Kd.C_below HR0.out HB.out) | (with_reducible refine Kd.C_alloc ?_ _) | (with_reducible refine Kd.C_drewN ?_ _) | (with_reducible refine Kd.C_drew ?_))); (case side2 => exact HC0.out); rintro e w7 ⟨rfl, hb⟩; refine ⟨_, rfl, ?_⟩; have n0_ := Aside0.mk (below_step (by repeat (first | (with_reducible first | exact HB.out | apply below_alloc | apply pw_below_drewN | apply below_drew1) | exact HB.out)) hb); clear HB; have HB := n0_; clear n0_; (try clear hb); (try clear hb2); (try clear hk); (try clear hi)))
      go_meet
      case rel => exact ⟨_, (true), (by first | rfl | (simp; done) | (simp [*]; done)), H', ⟨by first | omega | exact Nat.le_refl _⟩, ⟨by repeat (first | (with_reducible first | exact HB.out | apply below_alloc | apply pw_below_drewN | apply below_drew1) | exact HB.out)⟩⟩
    · rw [if_neg c6] at H
      have c6b0 : decide (a1 < 0) = false := decide_eq_false c6
      clear c6
      (first | rw [c6b0] | (simp only [i64_w, i32_w]; rw [c6b0]) | skip)
      have H' := Aside0.mk H
      clear H
      go_wp2_with (first | ((with_reducible refine gate_callee (f := 24) rfl ?_); refine goesL_ (some 8) rfl rfl Try.func24 (by kernel_rfl) rfl #[.slice A0 l0.length c0] rfl (by (try simp only [List.map_toArray, List.map_cons, List.map_nil]); first | done | rfl | (simp only [List.length_drop, List.length_take]; rfl)) ?_; (with_reducible refine (kimberliteref01_Valid.calls k _ _ l0 true _ ?side1 ?side2 A4.out).mono ?_); (case side1 => repeat (first | exact (Kd.C_below HR0.out HB.out) | (with_reducible refine Kd.C_alloc ?_ _) | (with_reducible refine Kd.C_drewN ?_ _) | (with_reducible refine Kd.C_drew ?_))); (case side2 => exact HC0.out); rintro e w8 ⟨rfl, hb⟩; refine ⟨_, rfl, ?_⟩; have n0_ := Aside0.mk (below_step (by repeat (first | (with_reducible first | exact HB.out | apply below_alloc | apply pw_below_drewN | apply below_drew1) | exact HB.out)) hb); clear HB; have HB := n0_; clear n0_; (try clear hb); (try clear hb2); (try clear hk); (try clear hi)))
      go_meet
      case rel => exact ⟨_, (decide (a1 > 1099511627776)), (by first | rfl | (simp; done) | (simp [*]; done)), H', ⟨by first | omega | exact Nat.le_refl _⟩, ⟨by repeat (first | (with_reducible first | exact HB.out | apply below_alloc | apply pw_below_drewN | apply below_drew1) | exact HB.out)⟩⟩
  · replace c5 := Bool.eq_false_iff.mpr c5
    subst c5
    have H1 : (kimberliteref01_Shrink.j0 k l0 a1 true) = some (r1, r2) := by rw [if_neg (show ¬ (false = true) by decide)] at H; exact H
    clear H
    have H := H1
    clear H1
    have H' := Aside0.mk H
    clear H
    go_wp2_with (first | ((with_reducible refine gate_callee (f := 24) rfl ?_); refine goesL_ (some 8) rfl rfl Try.func24 (by kernel_rfl) rfl #[.slice A0 l0.length c0] rfl (by (try simp only [List.map_toArray, List.map_cons, List.map_nil]); first | done | rfl | (simp only [List.length_drop, List.length_take]; rfl)) ?_; (with_reducible refine (kimberliteref01_Valid.calls k _ _ l0 false _ ?side1 ?side2 A4.out).mono ?_); (case side1 => repeat (first | exact (Kd.C_below HR0.out HB.out) | (with_reducible refine Kd.C_alloc ?_ _) | (with_reducible refine Kd.C_drewN ?_ _) | (with_reducible refine Kd.C_drew ?_))); (case side2 => exact HC0.out); rintro e w9 ⟨rfl, hb⟩; refine ⟨_, rfl, ?_⟩; have n0_ := Aside0.mk (below_step (by repeat (first | (with_reducible first | exact HB.out | apply below_alloc | apply pw_below_drewN | apply below_drew1) | exact HB.out)) hb); clear HB; have HB := n0_; clear n0_; (try clear hb); (try clear hb2); (try clear hk); (try clear hi)))
    go_meet
    case rel => exact ⟨_, (true), (by first | rfl | (simp; done) | (simp [*]; done)), H', ⟨by first | omega | exact Nat.le_refl _⟩, ⟨by repeat (first | (with_reducible first | exact HB.out | apply below_alloc | apply pw_below_drewN | apply below_drew1) | exact HB.out)⟩⟩
 case rest =>
  clear HC3
  try clear c2
  try clear p2
  try clear c4
  try clear c5
  try clear c6
  try clear c6b0
  obtain ⟨kq, x17_2, rfl, HA, HJ2, HB⟩ := hcut
  cases kq with
  | zero => exact absurd HA.out (by simp [kimberliteref01_Shrink.j0])
  | succ kj2 =>
   have H := HA.out
   clear HA
   simp only [kimberliteref01_Shrink.j0] at H
   by_cases c10 : x17_2 = true
   · subst c10
     have H1 : (some (([] : List (S32)), 2)) = some (r1, r2) := by rw [if_pos rfl] at H; exact H
     clear H
     have H := H1
     clear H1
     simp only [Option.some.injEq, Prod.mk.injEq] at H
     obtain ⟨rfl, rfl⟩ := H
     go_wp2
     go_ret2
     exact ⟨_, by first | rfl | (simp [errW_none, errW_some] <;> rfl) | (simp [*, errW_none, errW_some] <;> rfl), by first | exact Kd.R_nil _ _ _ _ _ | exact Kd.N_nil _ _ _ _ _ | exact Kd.V_nil _ _ _ _ _ | exact Kd.Q_nil _ _ _ _ _ | exact Kd.S_nil _ _ _ _ _, by repeat (first | (with_reducible first | exact HB.out | apply below_alloc | apply pw_below_drewN | apply below_drew1) | exact HB.out)⟩
   · replace c10 := Bool.eq_false_iff.mpr c10
     subst c10
     have H1 : ((kimberliteref01_Whole.f).bind fun bt245 => ((some (([(⟨bt245.1, bt245.2⟩ : S32)] : List (S32)) : List (S32))).bind fun y247 => ((kimberliteref01_Made.f kj2 2 y247 l0).bind fun t250 => ((kimberliteref01_grown.f kj2 t250 a1).bind fun t253 => ((kimberliteref01_Made.f kj2 2 y247 t253).bind fun t256 => (some (t256, 0))))))) = some (r1, r2) := by rw [if_neg (show ¬ (false = true) by decide)] at H; exact H
     clear H
     have H := H1
     clear H1
     replace H := Option.bind_eq_some_iff.mp H
     obtain ⟨⟨t245, t246⟩, A110, H⟩ := H
     replace H : ((some (([(⟨t245, t246⟩ : S32)] : List (S32)) : List (S32))).bind fun y247 => ((kimberliteref01_Made.f kj2 2 y247 l0).bind fun t250 => ((kimberliteref01_grown.f kj2 t250 a1).bind fun t253 => ((kimberliteref01_Made.f kj2 2 y247 t253).bind fun t256 => (some (t256, 0)))))) = some (r1, r2) := H
     have A11 := Aside0.mk A110
     clear A110
     obtain ⟨y247, hy247⟩ : ∃ y_ : List (S32), y_ = (([(⟨t245, t246⟩ : S32)] : List (S32))) := ⟨_, rfl⟩
     replace H : ((kimberliteref01_Made.f kj2 2 y247 l0).bind fun t250 => ((kimberliteref01_grown.f kj2 t250 a1).bind fun t253 => ((kimberliteref01_Made.f kj2 2 y247 t253).bind fun t256 => (some (t256, 0))))) = some (r1, r2) := by first | (rw [hy247]; with_reducible exact H) | (have H2_ := (Option.bind_some _ _).symm.trans H; rw [hy247]; with_reducible exact H2_) | (have H2_ := (Option.bind_some _ _).symm.trans H; with_reducible exact H2_) | with_reducible exact H | (rw [hy247]; exact H) | exact H
     have Ny247 := Aside0.mk hy247
     clear hy247
     replace H := Option.bind_eq_some_iff.mp H
     obtain ⟨t250, A120, H⟩ := H
     replace H : ((kimberliteref01_grown.f kj2 t250 a1).bind fun t253 => ((kimberliteref01_Made.f kj2 2 y247 t253).bind fun t256 => (some (t256, 0)))) = some (r1, r2) := H
     have A12 := Aside0.mk A120
     clear A120
     replace H := Option.bind_eq_some_iff.mp H
     obtain ⟨t253, A130, H⟩ := H
     replace H : ((kimberliteref01_Made.f kj2 2 y247 t253).bind fun t256 => (some (t256, 0))) = some (r1, r2) := H
     have A13 := Aside0.mk A130
     clear A130
     replace H := Option.bind_eq_some_iff.mp H
     obtain ⟨t256, A140, H⟩ := H
     replace H : (some (t256, 0)) = some (r1, r2) := H
     have A14 := Aside0.mk A140
     clear A140
     simp only [Option.some.injEq, Prod.mk.injEq] at H
     obtain ⟨rfl, rfl⟩ := H
     go_wp2_with (first | ((with_reducible refine gate_callee (f := 78) rfl ?_); refine goesL_ (some 18) rfl rfl Try.func78 (by kernel_rfl) rfl #[] rfl (by (try simp only [List.map_toArray, List.map_cons, List.map_nil]); first | done | rfl | (simp only [List.length_drop, List.length_take]; rfl)) ?_; (with_reducible refine (kimberliteref01_Whole.calls  t245 t246 _ A11.out).mono ?_); rintro e w15 ⟨rfl, hb⟩; refine ⟨_, rfl, ?_⟩; have n0_ := Aside0.mk (below_step (by repeat (first | (with_reducible first | exact HB.out | apply below_alloc | apply pw_below_drewN | apply below_drew1) | exact HB.out)) hb); clear HB; have HB := n0_; clear n0_; (try clear hb); (try clear hb2); (try clear hk); (try clear hi)) | ((with_reducible refine gate_dst (N := 19) rfl ?_); refine Kd.R_lit k32 _ 32 ?hg (N := 19) ?hd (xs := ([(⟨t245, t246⟩ : S32)] : List (S32))) (inner := [.int .i64 t245, .int .i64 t246]) (ok := fun _ => True) (okp := fun _ => True) ?hr ?hp (fun _ hk => hk) trivial (Below.refl _ _) (Nat.le_refl _) (by simp) ?_; (case hd => rfl); (case hg => rfl); (case hr => first | (go_simp; done) | (go_simp; rfl)); (case hp => exact (Reps.c2 (show Kd.M k32 _ _ _ (⟨t245, t246⟩ : S32) [.int .i64 t245, .int .i64 t246] from (k32_mkM _ _ _ (⟨t245, t246⟩ : S32) )) (Reps.none _ _))); intro v248 w16 ho17 hb hg_ hnew_; clear hg_ hnew_; (first | rw [← Ny247.out] at ho17 | (simp only [Int.reduceToNat] at ho17; rw [← Ny247.out] at ho17)); have n0_ := Aside0.mk (Kd.R_lower ho17 (below_size (by repeat (first | (with_reducible first | exact HB.out | apply below_alloc | apply pw_below_drewN | apply below_drew1) | exact HB.out)))); have n1_ := Aside0.mk (below_step (by repeat (first | (with_reducible first | exact HB.out | apply below_alloc | apply pw_below_drewN | apply below_drew1) | exact HB.out)) hb); clear HB; have HO249 := n0_; have HB := n1_; clear n0_ n1_; clear hb ho17; obtain ⟨Ao18, co18, eo18⟩ := Kd.R_slice HO249.out; subst eo18) | ((with_reducible refine gate_callee (f := 63) rfl ?_); refine goesL_ (some 23) rfl rfl Try.func63 (by kernel_rfl) rfl #[.int .i64 2, .slice Ao18 y247.length co18, .slice A0 l0.length c0] rfl (by (try simp only [List.map_toArray, List.map_cons, List.map_nil]); first | done | rfl | (simp only [List.length_drop, List.length_take]; rfl)) ?_; (with_reducible refine (kimberliteref01_Made.calls kj2 2 _ _ y247 _ _ l0 t250 _ ?side1 ?side2 ?side3 ?side4 A12.out).mono ?_); (case side1 => repeat (first | exact (Kd.R_reads' HO249.out).2.2 | (with_reducible refine Kd.C_alloc ?_ _) | (with_reducible refine Kd.C_drewN ?_ _) | (with_reducible refine Kd.C_drew ?_))); (case side2 => exact (Kd.R_reads' HO249.out).2.1); (case side3 => repeat (first | exact (Kd.C_below HR0.out HB.out) | (with_reducible refine Kd.C_alloc ?_ _) | (with_reducible refine Kd.C_drewN ?_ _) | (with_reducible refine Kd.C_drew ?_))); (case side4 => exact HC0.out); rintro e w19 ⟨v251, rfl, ho0, hb⟩; refine ⟨_, rfl, ?_⟩; have n0_ := Aside0.mk (Kd.R_elder' (by (with_reducible repeat (first | apply Kd.R_alloc | apply Kd.R_drewN | apply Kd.R_drew)); exact HO249.out) (Kd.R_base ho0) hb); have n1_ := Aside0.mk (Kd.R_lower (Kd.R_new' ho0 (Kd.R_lt (by (with_reducible repeat (first | apply Kd.R_alloc | apply Kd.R_drewN | apply Kd.R_drew)); exact HO249.out))) (below_size (by repeat (first | (with_reducible first | exact HB.out | apply below_alloc | apply pw_below_drewN | apply below_drew1) | exact HB.out)))); have n2_ := Aside0.mk (below_step (by repeat (first | (with_reducible first | exact HB.out | apply below_alloc | apply pw_below_drewN | apply below_drew1) | exact HB.out)) hb); clear HO249; clear HB; have HO249 := n0_; have HO252 := n1_; have HB := n2_; clear n0_ n1_ n2_; (try clear hb); (try clear hb2); (try clear hk); (try clear hi); (try clear ho0); obtain ⟨Ao20, co20, eo20⟩ := Kd.R_slice HO252.out; subst eo20) | ((with_reducible refine gate_callee (f := 77) rfl ?_); refine goesL_ (some 25) rfl rfl Try.func77 (by kernel_rfl) rfl #[.slice Ao20 t250.length co20, .int .i64 a1] rfl (by (try simp only [List.map_toArray, List.map_cons, List.map_nil]); first | done | rfl | (simp only [List.length_drop, List.length_take]; rfl)) ?_; (with_reducible refine (kimberliteref01_grown.calls kj2 _ _ t250 a1 t253 _ ?side1 ?side2 A13.out).mono ?_); (case side1 => repeat (first | exact (Kd.R_reads' HO252.out).2.2 | (with_reducible refine Kd.C_alloc ?_ _) | (with_reducible refine Kd.C_drewN ?_ _) | (with_reducible refine Kd.C_drew ?_))); (case side2 => exact (Kd.R_reads' HO252.out).2.1); rintro e w21 ⟨v254, rfl, ho0, hb⟩; refine ⟨_, rfl, ?_⟩; have n0_ := Aside0.mk (Kd.R_elder' (by (with_reducible repeat (first | apply Kd.R_alloc | apply Kd.R_drewN | apply Kd.R_drew)); exact HO249.out) (Kd.R_base ho0) hb); have n1_ := Aside0.mk (Kd.R_elder' (by (with_reducible repeat (first | apply Kd.R_alloc | apply Kd.R_drewN | apply Kd.R_drew)); exact HO252.out) (Kd.R_base ho0) hb); have n2_ := Aside0.mk (Kd.R_lower (Kd.R_new' (Kd.R_new' ho0 (Kd.R_lt (by (with_reducible repeat (first | apply Kd.R_alloc | apply Kd.R_drewN | apply Kd.R_drew)); exact HO249.out))) (Kd.R_lt (by (with_reducible repeat (first | apply Kd.R_alloc | apply Kd.R_drewN | apply Kd.R_drew)); exact HO252.out))) (below_size (by repeat (first | (with_reducible first | exact HB.out | apply below_alloc | apply pw_below_drewN | apply below_drew1) | exact HB.out)))); have n3_ := Aside0.mk (below_step (by repeat (first | (with_reducible first | exact HB.out | apply below_alloc | apply pw_below_drewN | apply below_drew1) | exact HB.out)) hb); clear HO249; clear HO252; clear HB; have HO249 := n0_; have HO252 := n1_; have HO255 := n2_; have HB := n3_; clear n0_ n1_ n2_ n3_; (try clear hb); (try clear hb2); (try clear hk); (try clear hi); (try clear ho0); obtain ⟨Ao22, co22, eo22⟩ := Kd.R_slice HO255.out; subst eo22) | ((with_reducible refine gate_callee (f := 63) rfl ?_); refine goesL_ (some 26) rfl rfl Try.func63 (by kernel_rfl) rfl #[.int .i64 2, .slice Ao18 y247.length co18, .slice Ao22 t253.length co22] rfl (by (try simp only [List.map_toArray, List.map_cons, List.map_nil]); first | done | rfl | (simp only [List.length_drop, List.length_take]; rfl)) ?_; (with_reducible refine (kimberliteref01_Made.calls kj2 2 _ _ y247 _ _ t253 t256 _ ?side1 ?side2 ?side3 ?side4 A14.out).mono ?_); (case side1 => repeat (first | exact (Kd.R_reads' HO249.out).2.2 | (with_reducible refine Kd.C_alloc ?_ _) | (with_reducible refine Kd.C_drewN ?_ _) | (with_reducible refine Kd.C_drew ?_))); (case side2 => exact (Kd.R_reads' HO249.out).2.1); (case side3 => repeat (first | exact (Kd.R_reads' HO255.out).2.2 | (with_reducible refine Kd.C_alloc ?_ _) | (with_reducible refine Kd.C_drewN ?_ _) | (with_reducible refine Kd.C_drew ?_))); (case side4 => exact (Kd.R_reads' HO255.out).2.1); rintro e w23 ⟨v257, rfl, ho0, hb⟩; refine ⟨_, rfl, ?_⟩; have n0_ := Aside0.mk (Kd.R_elder' (by (with_reducible repeat (first | apply Kd.R_alloc | apply Kd.R_drewN | apply Kd.R_drew)); exact HO249.out) (Kd.R_base ho0) hb); have n1_ := Aside0.mk (Kd.R_elder' (by (with_reducible repeat (first | apply Kd.R_alloc | apply Kd.R_drewN | apply Kd.R_drew)); exact HO252.out) (Kd.R_base ho0) hb); have n2_ := Aside0.mk (Kd.R_elder' (by (with_reducible repeat (first | apply Kd.R_alloc | apply Kd.R_drewN | apply Kd.R_drew)); exact HO255.out) (Kd.R_base ho0) hb); have n3_ := Aside0.mk (Kd.R_lower (Kd.R_new' (Kd.R_new' (Kd.R_new' ho0 (Kd.R_lt (by (with_reducible repeat (first | apply Kd.R_alloc | apply Kd.R_drewN | apply Kd.R_drew)); exact HO249.out))) (Kd.R_lt (by (with_reducible repeat (first | apply Kd.R_alloc | apply Kd.R_drewN | apply Kd.R_drew)); exact HO252.out))) (Kd.R_lt (by (with_reducible repeat (first | apply Kd.R_alloc | apply Kd.R_drewN | apply Kd.R_drew)); exact HO255.out))) (below_size (by repeat (first | (with_reducible first | exact HB.out | apply below_alloc | apply pw_below_drewN | apply below_drew1) | exact HB.out)))); have n4_ := Aside0.mk (below_step (by repeat (first | (with_reducible first | exact HB.out | apply below_alloc | apply pw_below_drewN | apply below_drew1) | exact HB.out)) hb); clear HO249; clear HO252; clear HO255; clear HB; have HO249 := n0_; have HO252 := n1_; have HO255 := n2_; have HO258 := n3_; have HB := n4_; clear n0_ n1_ n2_ n3_ n4_; (try clear hb); (try clear hb2); (try clear hk); (try clear hi); (try clear ho0)))
     go_ret2
     exact ⟨_, by first | rfl | (simp [errW_none, errW_some] <;> rfl) | (simp [*, errW_none, errW_some] <;> rfl), by (with_reducible repeat (first | apply Kd.R_alloc | apply Kd.R_drewN | apply Kd.R_drew)); exact Kd.R_mono HO258.out (fun _ hk => trivial), by repeat (first | (with_reducible first | exact HB.out | apply below_alloc | apply pw_below_drewN | apply below_drew1) | exact HB.out)⟩
end Go.Proofs.Ytningpmoojnomaa.Pr
end
section
namespace Go.Proofs.Ytningpmoojnomaa.Pr
open Go.RowKit Go.Proofs.YtningpmoojnomaaW.PrintWords Go.Proofs.YtningpmoojnomaaW.PrintLast Go.Proofs.YtningpmoojnomaaW.PrintMore
attribute [local go_sem] max2_int min2_int max_two min_two max_three min_three max_four min_four
set_option linter.unusedVariables false
set_option linter.unusedSimpArgs false
def growS (r : Int) (x : S32) : S32 := ⟨mx (wrap64 (x.f0 - r)) (-1099511627776), mn (wrap64 (x.f1 + r)) 1099511627776⟩
def growN (r : Int) (l : List S32) (k : Nat) : List S32 := (l.take k).map (growS r) ++ l.drop k
theorem growN_length (r : Int) (l : List S32) (k : Nat) : (growN r l k).length = l.length := by
  unfold growN
  simp
  omega
theorem growN_get (r : Int) (l : List S32) (k : Nat) (h : k < l.length) : rd_T32 (growN r l k) (k : Int) = l.getD k z32 := by
  unfold growN rd_T32
  rw [Int.toNat_natCast]
  simp only [List.getD_eq_getElem?_getD]
  rw [List.getElem?_append_right (by simp; omega)]
  simp [Nat.min_eq_left (Nat.le_of_lt h)]
theorem growN_set (r : Int) (l : List S32) (k : Nat) (h : k < l.length) : (growN r l k).set k (growS r (l.getD k z32)) = growN r l (k + 1) := by
  unfold growN
  rw [List.set_append_right _ _ (by simp; omega)]
  rw [List.take_succ_eq_append_getElem h, List.map_append, List.append_assoc]
  congr 1
  simp only [List.length_map, List.length_take, Nat.min_eq_left (Nat.le_of_lt h), Nat.sub_self]
  rw [show l.getD k z32 = l[k] from by simp [List.getD_eq_getElem?_getD, List.getElem?_eq_getElem h]]
  conv => lhs; rw [List.drop_eq_getElem_cons h]
  rfl
theorem growN_all (r : Int) (l : List S32) : growN r l l.length = l.map (growS r) := by
  unfold growN
  simp
theorem growN_zero (r : Int) (l : List S32) : growN r l 0 = l := by simp [growN]
def span_Grow.f (k : Nat) (l0 : List S32) (a1 : Int) : Option (List S32 × Int) :=
  (span_radius.f k l0 a1).bind fun t => if t = true then (clone_Span.f l0).bind fun o => (span_joined.f k (o.map (growS a1))).bind fun j => some (j, 0) else some ([], 2)
theorem span_Grow.mono : ∀ a0 a1 k, LeO (span_Grow.f k a0 a1) (span_Grow.f (k + 1) a0 a1) := by
  intro a0 a1 k
  unfold span_Grow.f
  refine LeO.bind (span_radius.mono _ _ _) (fun t => LeO.ite (LeO.bind (LeO.refl _) (fun o => LeO.bind (span_joined.mono _ _) (fun _ => LeO.refl _))) (LeO.refl _))
set_option maxHeartbeats 4000000 in
set_option maxRecDepth 100000 in
theorem span_Grow.calls (k : Nat) (A0 : Option Addr) (c0 : Nat) (l0 : List S32) (a1 : Int) (r1 : List S32) (r2 : Int) (w : World) (hr0 : Kd.C k32 w A0 l0.length l0) (hc0 : l0.length ≤ c0) (h : span_Grow.f k l0 a1 = some (r1, r2)) :
    Calls Try.prog 38 #[.slice A0 l0.length c0, .int .i64 a1] w fun e w' => ∃ v0_ : Value, e = .returned (.tuple #[v0_, .int .i64 r2]) ∧ Kd.R k32 32 w' w.heap.size (fun _ => True) v0_ r1 ∧ Below w.heap.size w w' := by
  have hm : l0.length ≤ 9223372036854775807 := hr0.2.1
  have HR0 := Aside0.mk hr0
  have HC0 := Aside0.mk hc0
  have HM := Aside0.mk hm
  clear hr0 hc0 hm
  have hu32 := Try.underlying32
  unfold span_Grow.f at h
  obtain ⟨t, ht, h⟩ := Option.bind_eq_some_iff.mp h
  have HT := Aside0.mk ht
  clear ht
  cases t with
  | false =>
    simp at h
    obtain ⟨rfl, rfl⟩ := h
    go_enter Try.func38, Try.ntmps38
    go_wp2_with (go_at_call 76; refine (span_radius.calls k _ _ l0 a1 false _ HR0.out HC0.out HT.out).mono ?_; rintro e w' ⟨rfl, hb'⟩)
    go_ret2
    exact ⟨_, rfl, Kd.R_nil _ _ _ _ _, hb'⟩
  | true =>
    rw [if_pos rfl] at h
    obtain ⟨o, ho, h⟩ := Option.bind_eq_some_iff.mp h
    obtain ⟨j, hj, h⟩ := Option.bind_eq_some_iff.mp h
    simp at h
    obtain ⟨rfl, rfl⟩ := h
    have HO := Aside0.mk ho
    have eo : o = l0 := by
      unfold clone_Span.f at ho
      split at ho
      · injection ho with ho
        exact ho.symm
      · cases ho
    subst eo
    have HJ := Aside0.mk hj
    clear ho hj
    go_enter Try.func38, Try.ntmps38
    go_wp2_with (go_at_call 76; refine (span_radius.calls k _ _ o a1 true _ HR0.out HC0.out HT.out).mono ?_; rintro e w1 ⟨rfl, hb1⟩)
    have HB1 := Aside0.mk hb1
    clear hb1
    go_wp2_with (go_at_call 65; refine (clone_Span.calls _ _ o o _ (Kd.C_below HR0.out HB1.out) HC0.out HO.out).mono ?_; rintro e w2 ⟨v, rfl, hr2, hb2⟩; obtain ⟨A2, c2, e2⟩ := Kd.R_slice hr2; subst e2)
    have HB2 := Aside0.mk (below_then HB1.out HB1.out.size hb2)
    have HR2 := Aside0.mk (Kd.R_lower hr2 HB1.out.size)
    clear hb2 hr2 HB1
    go_wp2
    go_loopg [17] o.length (fun gg v17 wr => ∃ kk : Nat, kk ≤ o.length ∧ o.length - kk ≤ gg ∧ v17 = .int .i64 kk ∧ Aside0 (Below w.heap.size w wr) ∧ Aside0 (Kd.R k32 32 wr w.heap.size (fun _ => True) (.slice A2 o.length c2) (growN a1 o kk)))
    case atStart => exact ⟨0, Nat.zero_le _, by omega, rfl, HB2, ⟨by rw [growN_zero]; exact HR2.out⟩⟩
    case round =>
      obtain ⟨kk, hkk, hg, rfl, HB, HR⟩ := hrel
      have hm2 := HM.out
      by_cases hlt : kk < o.length
      · have hltz : (kk : Int) < (o.length : Int) := by omega
        have el := growN_length a1 o kk
        obtain ⟨go4, co4, eo4, gb4, gl4, cl4, HG4⟩ := Kd.R_form HR.out (by rw [el]; omega)
        injection eo4 with ea_ en_ ec_
        subst ea_ ec_
        obtain ⟨ce4, hcl4, hM4, hcc4, hfr4⟩ := Kd.R_elem HR.out z32 (kk : Int) (by omega) hltz
        obtain rfl := k32_openM hM4
        have HP := Aside0.mk (Kd.R_seg HR.out (kk : Int) (by omega) hltz (seg := [.int .i64 (growS a1 (o.getD kk z32)).f0, .int .i64 (growS a1 (o.getD kk z32)).f1]) (j := 0) hcl4 hcc4 (show 2 ≤ 2 from by decide) (x' := growS a1 (o.getD kk z32)) (k32_mkM _ _ _ (growS a1 (o.getD kk z32))) (fun _ hk => hk))
        have eg : rd_T32 (growN a1 o kk) (kk : Int) = o.getD kk z32 := growN_get a1 o kk hlt
        have es := growN_set a1 o kk hlt
        rw [show (growN a1 o kk).getD ((kk : Int)).toNat z32 = o.getD kk z32 from eg] at hcc4
        generalize hy : o.getD kk z32 = y at *
        have hx4_0 : wr.cell? ⟨go4, kk * 2, none⟩ = some (.int .i64 y.f0) := hcc4 0 _ rfl
        have hx4_1 : wr.cell? ⟨go4, kk * 2 + 1, none⟩ = some (.int .i64 y.f1) := hcc4 1 _ rfl
        have hf4_0 : wr.frozen? ⟨go4, kk * 2, none⟩ = false := hfr4 0
        have hf4_1 : wr.frozen? ⟨go4, kk * 2 + 1, none⟩ = false := hfr4 1
        have hgl : go4 < wr.heap.size := gl4
        clear hcl4 hcc4 hfr4 hM4 HG4 cl4 en_
        have EG := Aside0.mk eg
        have ES := Aside0.mk es
        have EL := Aside0.mk el
        clear eg es el hy HR HR2
        have fin : ∀ p q : Int, growS a1 y = ⟨p, q⟩ → ∀ nx : Obj,
            Below w.heap.size w (((wr.setCell ⟨go4, kk * 2, none⟩ (.int .i64 p)).setCell ⟨go4, kk * 2 + 1, none⟩ (.int .i64 q)).alloc nx) ∧
            Kd.R k32 32 (((wr.setCell ⟨go4, kk * 2, none⟩ (.int .i64 p)).setCell ⟨go4, kk * 2 + 1, none⟩ (.int .i64 q)).alloc nx) w.heap.size (fun _ => True) (.slice (some ⟨go4, 0, none⟩) o.length c2) (growN a1 o (kk + 1)) := by
          intro p q e nx
          have hp := HP.out
          have es := ES.out
          rw [e] at hp es
          rw [Int.toNat_natCast, es] at hp
          exact ⟨below_alloc (below_set (below_set HB.out gb4) gb4) nx, Kd.R_alloc hp.1 nx⟩
        go_wp2
        all_goals
          go_roundg (o.length - (kk + 1))
          case measure => omega
          case rel =>
            have ff := fin _ _ (by unfold growS mx mn; first | (rw [if_pos (by omega), if_pos (by omega)]) | (rw [if_pos (by omega), if_neg (by omega)]) | (rw [if_neg (by omega), if_pos (by omega)]) | (rw [if_neg (by omega), if_neg (by omega)])) (.cells #[.int .i64 y.f0, .int .i64 y.f1] 32)
            exact ⟨kk + 1, by omega, by omega, by go_num, ⟨ff.1⟩, ⟨ff.2⟩⟩
      · have hltz : ¬ (kk : Int) < (o.length : Int) := by omega
        obtain rfl : kk = o.length := by omega
        rw [growN_all] at HR
        clear HR2
        have hC := fun W h1 h2 => span_joined.calls k A2 c2 (o.map (growS a1)) j W h1 h2 HJ.out
        have hr := Kd.R_reads' HR.out
        rw [List.length_map] at hC hr
        have HC := Aside0.mk hC
        clear hC
        have HRR := Aside0.mk hr
        clear hr
        go_wp2_with (go_at_call 69; refine (HC.out _ HRR.out.2.2 HRR.out.2.1).mono ?_; rintro e w3 ⟨v3, rfl, hr3, hb3⟩; obtain ⟨A3, c3, e3⟩ := Kd.R_slice hr3; subst e3)
        go_ret2
        exact ⟨_, rfl, Kd.R_lower hr3 HB.out.size, below_then HB.out HB.out.size hb3⟩
end Go.Proofs.Ytningpmoojnomaa.Pr
end
