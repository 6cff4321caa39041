/- Plain facts on the printed functions of span and its reference: what their loops come to. No condition. -/
import Derived.Test.YtningpmoojnomaaPrx5
import Derived.Test.YtningpmoojnomaaPrx6
import Derived.Test.YtningpmoojnomaaPrx8
import Derived.Test.YtningpmoojnomaaPrx9
import Derived.Test.YtningpmoojnomaaPrx10
import Derived.Test.YtningpmoojnomaaExtHas
namespace Go.Proofs.Ytningpmoojnomaa.Pr
open Go.RowKit Go.Proofs.YtningpmoojnomaaW.PrintWords Go.Proofs.YtningpmoojnomaaW.PrintLast Go.Proofs.YtningpmoojnomaaW.PrintMore
set_option linter.unusedVariables false
set_option linter.unusedSimpArgs false

theorem rd_nat (l : List S32) (i : Nat) : rd_T32 l (i : Int) = l.getD i z32 := by unfold rd_T32; rw [Int.toNat_natCast]
theorem wrap_succ {i n : Nat} (h : i < n) (hn : n ≤ 9223372036854775807) : wrap64 ((i : Int) + 1) = ((i + 1 : Nat) : Int) := by
  unfold wrap64
  omega
theorem wrap_pred {i n : Nat} (h0 : 0 < i) (h : i < n) (hn : n ≤ 9223372036854775807) : wrap64 ((i : Int) - 1) = ((i - 1 : Nat) : Int) := by
  unfold wrap64
  omega
theorem mn_eq (a b : Int) : mn a b = min a b := by unfold mn; omega
theorem mx_eq (a b : Int) : mx a b = max a b := by unfold mx; omega
theorem drop_cons (l : List S32) (i : Nat) (h : i < l.length) : l.drop i = l.getD i z32 :: l.drop (i + 1) := by
  rw [List.drop_eq_getElem_cons h]
  simp [List.getD_eq_getElem?_getD, List.getElem?_eq_getElem h]

/-! ### Valid -/
def okAt (l : List S32) (i : Nat) : Bool := goodS (l.getD i z32) && (i == 0 || decide ((l.getD (i - 1) z32).f1 < (l.getD i z32).f0))
def validFrom (l : List S32) (i : Nat) : Bool := (List.range' i (l.length - i)).all (okAt l)
theorem validFrom_end (l : List S32) (i : Nat) (h : l.length ≤ i) : validFrom l i = true := by
  unfold validFrom
  rw [Nat.sub_eq_zero_of_le h]
  rfl
theorem validFrom_step (l : List S32) (i : Nat) (h : i < l.length) : validFrom l i = (okAt l i && validFrom l (i + 1)) := by
  unfold validFrom
  rw [show l.length - i = (l.length - (i + 1)) + 1 by omega, List.range'_succ, List.all_cons]
def validS (l : List S32) : Bool := decide (l.length ≤ 128) && validFrom l 0

theorem spanValid_step (l : List S32) (i k : Nat) (h : i < l.length) (hn : l.length ≤ 9223372036854775807) :
    span_Valid.l0 (k + 1) l l (l.length : Int) (i : Int) = span_Valid.j1 k l l (l.length : Int) (i : Int) (!okAt l i) := by
  have hlt : (i : Int) < (l.length : Int) := by omega
  simp only [span_Valid.l0]
  rw [if_pos hlt, if_pos (by omega), if_pos hlt, goodS_f, Option.bind_some]
  unfold okAt
  cases hg : goodS (rd_T32 l (i : Int)) with
  | false => rw [rd_nat] at hg; simp only [hg]; simp
  | true =>
    rw [rd_nat] at hg
    simp only [hg, Bool.true_and]
    rw [if_pos trivial]
    by_cases h0 : i = 0
    · subst h0
      simp
    · have e0 : (i == 0) = false := by simpa using h0
      rw [if_pos (by omega : (i : Int) > 0), wrap_pred (by omega) h hn, if_pos (by omega), if_pos (by omega), rd_nat, rd_nat, e0, Bool.false_or]
      congr 1
      rw [Bool.eq_iff_iff]
      simp
theorem spanValid_loop (l : List S32) (hn : l.length ≤ 9223372036854775807) : ∀ (d i : Nat), l.length - i = d → Ev (fun k => span_Valid.l0 k l l (l.length : Int) (i : Int)) (validFrom l i)
  | 0, i, h => by
    rw [validFrom_end l i (by omega)]
    exact Ev.step (f := fun _ => some true) (fun k => by simp only [span_Valid.l0]; rw [if_neg (by omega)]) (Ev.now _)
  | d + 1, i, h => by
    rw [validFrom_step l i (by omega)]
    refine Ev.step (fun k => spanValid_step l i k (by omega) hn) ?_
    cases okAt l i with
    | true => exact Ev.step (f := fun k => span_Valid.l0 k l l (l.length : Int) ((i + 1 : Nat) : Int)) (fun k => by simp only [span_Valid.j1]; rw [wrap_succ (show i < l.length by omega) hn]; simp) (by simpa using spanValid_loop l hn d (i + 1) (by omega))
    | false => exact Ev.step (f := fun _ => some false) (fun k => by simp only [span_Valid.j1]; simp) (Ev.now _)
theorem spanValid_ev (l : List S32) (hn : l.length ≤ 9223372036854775807) : Ev (fun k => span_Valid.f k l) (validS l) := by
  unfold span_Valid.f validS
  by_cases h : (l.length : Int) > 128
  · rw [show decide (l.length ≤ 128) = false by simp; omega]
    simpa [h] using Ev.now false
  · rw [show decide (l.length ≤ 128) = true by simp; omega]
    simpa [h] using spanValid_loop l hn _ 0 rfl

theorem refGood_f (x : S32) : kimberliteref01_Good.f x.f0 x.f1 = some (goodS x) := goodS_f x
theorem refValid_step (l : List S32) (i k : Nat) (h : i < l.length) (hn : l.length ≤ 9223372036854775807) :
    kimberliteref01_Valid.l0 (k + 1) l (i : Int) = kimberliteref01_Valid.j1 k l (i : Int) (!okAt l i) := by
  have hlt : (i : Int) < (l.length : Int) := by omega
  simp only [kimberliteref01_Valid.l0]
  rw [if_pos hlt, if_pos (by omega), refGood_f, Option.bind_some]
  unfold okAt
  cases hg : goodS (rd_T32 l (i : Int)) with
  | false => rw [rd_nat] at hg; simp only [hg]; simp
  | true =>
    rw [rd_nat] at hg
    simp only [hg, Bool.true_and]
    rw [if_pos trivial]
    by_cases h0 : i = 0
    · subst h0
      simp
    · have e0 : (i == 0) = false := by simpa using h0
      rw [if_pos (by omega : (i : Int) > 0), wrap_pred (by omega) h hn, if_pos (by omega), if_pos (by omega), rd_nat, rd_nat, e0, Bool.false_or]
      congr 1
      rw [Bool.eq_iff_iff]
      simp
theorem refValid_loop (l : List S32) (hn : l.length ≤ 9223372036854775807) : ∀ (d i : Nat), l.length - i = d → Ev (fun k => kimberliteref01_Valid.l0 k l (i : Int)) (validFrom l i)
  | 0, i, h => by
    rw [validFrom_end l i (by omega)]
    exact Ev.step (f := fun _ => some true) (fun k => by simp only [kimberliteref01_Valid.l0]; rw [if_neg (by omega)]) (Ev.now _)
  | d + 1, i, h => by
    rw [validFrom_step l i (by omega)]
    refine Ev.step (fun k => refValid_step l i k (by omega) hn) ?_
    cases okAt l i with
    | true => exact Ev.step (f := fun k => kimberliteref01_Valid.l0 k l ((i + 1 : Nat) : Int)) (fun k => by simp only [kimberliteref01_Valid.j1]; rw [wrap_succ (show i < l.length by omega) hn]; simp) (by simpa using refValid_loop l hn d (i + 1) (by omega))
    | false => exact Ev.step (f := fun _ => some false) (fun k => by simp only [kimberliteref01_Valid.j1]; simp) (Ev.now _)
theorem refValid_ev (l : List S32) (hn : l.length ≤ 9223372036854775807) : Ev (fun k => kimberliteref01_Valid.f k l) (validS l) := by
  unfold kimberliteref01_Valid.f validS
  by_cases h : (l.length : Int) > 128
  · rw [show decide (l.length ≤ 128) = false by simp; omega]
    simpa [h] using Ev.now false
  · rw [show decide (l.length ≤ 128) = true by simp; omega]
    simpa [h] using refValid_loop l hn _ 0 rfl

/-! ### Has -/
theorem refIn_loop (l : List S32) (x : Int) (hn : l.length ≤ 9223372036854775807) : ∀ (d i : Nat), l.length - i = d → Ev (fun k => kimberliteref01_in.l0 k l x (i : Int)) ((l.drop i).any (hasS x))
  | 0, i, h => by
    rw [List.drop_eq_nil_of_le (by omega)]
    exact Ev.step (f := fun _ => some false) (fun k => by simp only [kimberliteref01_in.l0]; rw [if_neg (by omega)]) (Ev.now _)
  | d + 1, i, h => by
    have hi : i < l.length := by omega
    rw [drop_cons l i hi, List.any_cons]
    refine Ev.step (f := fun k => kimberliteref01_in.j1 k l x (i : Int) (hasS x (l.getD i z32))) (fun k => ?_) ?_
    · simp only [kimberliteref01_in.l0]
      rw [if_pos (by omega), if_pos (by omega), rd_nat]
      unfold hasS
      by_cases hc : (l.getD i z32).f0 ≤ x
      · rw [if_pos hc, decide_eq_true hc, Bool.true_and]
      · rw [if_neg hc, decide_eq_false hc, Bool.false_and]
    · cases hasS x (l.getD i z32) with
      | true => exact Ev.step (f := fun _ => some true) (fun k => by simp only [kimberliteref01_in.j1]; simp) (Ev.now _)
      | false => exact Ev.step (f := fun k => kimberliteref01_in.l0 k l x ((i + 1 : Nat) : Int)) (fun k => by simp only [kimberliteref01_in.j1]; rw [wrap_succ hi hn]; simp) (by simpa using refIn_loop l x hn d (i + 1) (by omega))
theorem refIn_ev (l : List S32) (x : Int) (hn : l.length ≤ 9223372036854775807) : Ev (fun k => kimberliteref01_in.f k l x) (l.any (hasS x)) := by
  simpa [kimberliteref01_in.f] using refIn_loop l x hn _ 0 rfl
def hasR (l : List S32) (x : Int) : Bool × Int := if validS l = true then (l.any (hasS x), 0) else (false, 2)
theorem spanHas_ev (l : List S32) (x : Int) (hn : l.length ≤ 9223372036854775807) : Ev (fun k => span_Has.f k l x) (hasR l x) := by
  unfold span_Has.f hasR
  refine Ev.bind (spanValid_ev l hn) ?_
  cases validS l <;> exact Ev.now _
theorem refHas_ev (l : List S32) (x : Int) (hn : l.length ≤ 9223372036854775807) : Ev (fun k => kimberliteref01_Has.f k l x) (hasR l x) := by
  unfold kimberliteref01_Has.f hasR
  refine Ev.bind (refValid_ev l hn) ?_
  cases validS l with
  | true => exact Ev.bind (refIn_ev l x hn) (Ev.now _)
  | false => exact Ev.now _

/-! ### Rank, Size -/
def rankStep (x acc : Int) (s : S32) : Int := if s.f0 < x then wrap64 (acc + wrap64 (min x s.f1 - s.f0)) else acc
theorem spanRank_loop (l : List S32) (x : Int) (hn : l.length ≤ 9223372036854775807) : ∀ (d i : Nat) (acc : Int), l.length - i = d → Ev (fun k => span_Rank.l0 k x acc l (l.length : Int) (i : Int)) ((l.drop i).foldl (rankStep x) acc, 0)
  | 0, i, acc, h => by
    rw [List.drop_eq_nil_of_le (by omega)]
    exact Ev.step (f := fun _ => some (acc, 0)) (fun k => by simp only [span_Rank.l0]; rw [if_neg (by omega)]) (Ev.now _)
  | d + 1, i, acc, h => by
    have hi : i < l.length := by omega
    rw [drop_cons l i hi, List.foldl_cons]
    refine Ev.step (f := fun k => span_Rank.l0 k x (rankStep x acc (l.getD i z32)) l (l.length : Int) ((i + 1 : Nat) : Int)) (fun k => ?_) (spanRank_loop l x hn d (i + 1) _ (by omega))
    simp only [span_Rank.l0]
    rw [if_pos (by omega), if_pos (by omega), if_pos (by omega), rd_nat, wrap_succ hi hn]
    unfold rankStep
    by_cases hc : (l.getD i z32).f0 < x
    · rw [if_pos (by omega), if_pos hc, mn_eq]
    · rw [if_neg (by omega), if_neg hc]
theorem refRank_loop (l : List S32) (x : Int) (hn : l.length ≤ 9223372036854775807) : ∀ (d i : Nat) (acc : Int), l.length - i = d → Ev (fun k => kimberliteref01_Rank.l0 k l x acc (i : Int)) ((l.drop i).foldl (rankStep x) acc, 0)
  | 0, i, acc, h => by
    rw [List.drop_eq_nil_of_le (by omega)]
    exact Ev.step (f := fun _ => some (acc, 0)) (fun k => by simp only [kimberliteref01_Rank.l0]; rw [if_neg (by omega)]) (Ev.now _)
  | d + 1, i, acc, h => by
    have hi : i < l.length := by omega
    rw [drop_cons l i hi, List.foldl_cons]
    refine Ev.step (f := fun k => kimberliteref01_Rank.l0 k l x (rankStep x acc (l.getD i z32)) ((i + 1 : Nat) : Int)) (fun k => ?_) (refRank_loop l x hn d (i + 1) _ (by omega))
    simp only [kimberliteref01_Rank.l0]
    rw [if_pos (by omega), if_pos (by omega), rd_nat, wrap_succ hi hn]
    unfold rankStep
    by_cases hc : (l.getD i z32).f0 < x
    · rw [if_pos hc, if_pos hc, mn_eq, Int.min_comm]
    · rw [if_neg hc, if_neg hc]
def rankR (l : List S32) (x : Int) : Int × Int := if validS l = true then (l.foldl (rankStep x) 0, 0) else (0, 2)
theorem spanRank_ev (l : List S32) (x : Int) (hn : l.length ≤ 9223372036854775807) : Ev (fun k => span_Rank.f k l x) (rankR l x) := by
  unfold span_Rank.f rankR
  refine Ev.bind (spanValid_ev l hn) ?_
  cases validS l with
  | true => simpa using spanRank_loop l x hn _ 0 0 rfl
  | false => exact Ev.now _
theorem refRank_ev (l : List S32) (x : Int) (hn : l.length ≤ 9223372036854775807) : Ev (fun k => kimberliteref01_Rank.f k l x) (rankR l x) := by
  unfold kimberliteref01_Rank.f rankR
  refine Ev.bind (refValid_ev l hn) ?_
  cases validS l with
  | true => simpa using refRank_loop l x hn _ 0 0 rfl
  | false => exact Ev.now _
theorem spanSize_ev (l : List S32) (hn : l.length ≤ 9223372036854775807) : Ev (fun k => span_Size.f k l) (rankR l 1099511627776) := by
  unfold span_Size.f
  exact Ev.bind (spanRank_ev l _ hn) (Ev.now _)
theorem refSize_ev (l : List S32) (hn : l.length ≤ 9223372036854775807) : Ev (fun k => kimberliteref01_Size.f k l) (rankR l 1099511627776) := by
  unfold kimberliteref01_Size.f
  exact Ev.bind (refRank_ev l _ hn) (Ev.now _)

/-! ### Ascending sets -/
/-- Ascending from lo on, with gaps, below the bound. -/
def Asc (lo : Int) : List S32 → Prop
  | [] => True
  | s :: t => lo ≤ s.f0 ∧ s.f0 < s.f1 ∧ s.f1 ≤ 1099511627776 ∧ Asc (s.f1 + 1) t
def szS (l : List S32) : Int := (l.map (fun s => s.f1 - s.f0)).sum
theorem goodS_iff (s : S32) : goodS s = true ↔ -1099511627776 ≤ s.f0 ∧ s.f0 < s.f1 ∧ s.f1 ≤ 1099511627776 := by
  unfold goodS
  simp
theorem asc_of_valid (l : List S32) : ∀ (d i : Nat), l.length - i = d → validFrom l i = true → Asc (if i = 0 then -1099511627776 else (l.getD (i - 1) z32).f1 + 1) (l.drop i)
  | 0, i, h, _ => by rw [List.drop_eq_nil_of_le (by omega)]; trivial
  | d + 1, i, h, hv => by
    have hi : i < l.length := by omega
    rw [validFrom_step l i hi, Bool.and_eq_true] at hv
    have ih := asc_of_valid l d (i + 1) (by omega) hv.2
    rw [if_neg (by omega), Nat.add_sub_cancel] at ih
    have h1 := hv.1
    unfold okAt at h1
    rw [Bool.and_eq_true, goodS_iff] at h1
    rw [drop_cons l i hi]
    refine ⟨?_, h1.1.2.1, h1.1.2.2, ih⟩
    by_cases h0 : i = 0
    · rw [if_pos h0]; exact h1.1.1
    · rw [if_neg h0]
      have := h1.2
      have e0 : (i == 0) = false := by simpa using h0
      rw [e0, Bool.false_or] at this
      have := of_decide_eq_true this
      omega
theorem asc_valid {l : List S32} (h : validS l = true) : l.length ≤ 128 ∧ Asc (-1099511627776) l := by
  unfold validS at h
  rw [Bool.and_eq_true] at h
  refine ⟨by simpa using h.1, ?_⟩
  have := asc_of_valid l _ 0 rfl h.2
  simpa using this
theorem asc_sz : ∀ (l : List S32) (lo : Int), Asc lo l → lo ≤ 1099511627777 → 0 ≤ szS l ∧ szS l ≤ 1099511627777 - lo
  | [], lo, _, h => by simp [szS]; omega
  | s :: t, lo, ⟨h1, h2, h3, h4⟩, h => by
    have ih := asc_sz t (s.f1 + 1) h4 (by omega)
    have e : szS (s :: t) = (s.f1 - s.f0) + szS t := by simp [szS]
    omega
theorem size_valid : ∀ (l : List S32) (lo acc : Int), Asc lo l → -1099511627776 ≤ lo → 0 ≤ acc → acc + szS l ≤ 4611686018427387904 → l.foldl (rankStep 1099511627776) acc = acc + szS l
  | [], lo, acc, _, _, _, _ => by simp [szS]
  | s :: t, lo, acc, ⟨h1, h2, h3, h4⟩, h, ha, hb => by
    have e : szS (s :: t) = (s.f1 - s.f0) + szS t := by simp [szS]
    have ht := asc_sz t (s.f1 + 1) h4 (by omega)
    rw [List.foldl_cons]
    have e2 : rankStep 1099511627776 acc s = acc + (s.f1 - s.f0) := by
      unfold rankStep
      rw [if_pos (by omega), Int.min_eq_right h3]
      unfold wrap64
      omega
    rw [e2, size_valid t (s.f1 + 1) _ h4 (by omega) (by omega) (by omega), e]
    omega
theorem size_eq {l : List S32} (h : validS l = true) : l.foldl (rankStep 1099511627776) 0 = szS l ∧ 0 ≤ szS l ∧ szS l ≤ 2199023255553 := by
  have ha := (asc_valid h).2
  have hs := asc_sz l _ ha (by omega)
  refine ⟨?_, by omega, by omega⟩
  have := size_valid l _ 0 ha (by omega) (by omega) (by omega)
  omega

/-! ### Nth -/
def nthS : List S32 → Int → Option Int
  | [], _ => none
  | s :: t, i => if i < s.f1 - s.f0 then some (s.f0 + i) else nthS t (i - (s.f1 - s.f0))
theorem nthS_none : ∀ (l : List S32) (lo i : Int), Asc lo l → szS l ≤ i → nthS l i = none
  | [], _, _, _, _ => rfl
  | s :: t, lo, i, ⟨h1, h2, h3, h4⟩, h => by
    have e : szS (s :: t) = (s.f1 - s.f0) + szS t := by simp [szS]
    have ht : 0 ≤ szS t := (asc_sz t (s.f1 + 1) h4 (by omega)).1
    rw [nthS, if_neg (by omega)]
    exact nthS_none t _ _ h4 (by omega)
def nthRes (r : Option Int) : Int × Int := match r with
  | some v => (v, 0)
  | none => (0, 6)
theorem spanNth_loop (l : List S32) (hn : l.length ≤ 9223372036854775807) : ∀ (d j : Nat) (i lo : Int), l.length - j = d → Asc lo (l.drop j) → -1099511627776 ≤ lo → 0 ≤ i → i ≤ 9223372036854775807 → Ev (fun k => span_Nth.l0 k i l (l.length : Int) (j : Int)) (nthRes (nthS (l.drop j) i))
  | 0, j, i, lo, h, _, _, _, _ => by
    rw [List.drop_eq_nil_of_le (by omega)]
    exact Ev.step (f := fun _ => some (0, 6)) (fun k => by simp only [span_Nth.l0]; rw [if_neg (by omega)]) (Ev.now _)
  | d + 1, j, i, lo, h, ha, hlo, h0, h9 => by
    have hj : j < l.length := by omega
    rw [drop_cons l j hj] at ha ⊢
    obtain ⟨h1, h2, h3, h4⟩ := ha
    have w1 : wrap64 ((l.getD j z32).f1 - (l.getD j z32).f0) = (l.getD j z32).f1 - (l.getD j z32).f0 := by unfold wrap64; omega
    have w2 : wrap64 (i - ((l.getD j z32).f1 - (l.getD j z32).f0)) = i - ((l.getD j z32).f1 - (l.getD j z32).f0) := by unfold wrap64; omega
    rw [nthS]
    by_cases hc : i < (l.getD j z32).f1 - (l.getD j z32).f0
    · rw [if_pos hc]
      have w3 : wrap64 ((l.getD j z32).f0 + i) = (l.getD j z32).f0 + i := by unfold wrap64; omega
      refine Ev.step (f := fun _ => some ((l.getD j z32).f0 + i, 0)) (fun k => ?_) (Ev.now _)
      simp only [span_Nth.l0]
      rw [if_pos (by omega), if_pos (by omega), if_pos (by omega), rd_nat, w1, if_pos hc, w3]
    · rw [if_neg hc]
      refine Ev.step (f := fun k => span_Nth.l0 k (i - ((l.getD j z32).f1 - (l.getD j z32).f0)) l (l.length : Int) ((j + 1 : Nat) : Int)) (fun k => ?_) (spanNth_loop l hn d (j + 1) _ _ (by omega) h4 (by omega) (by omega) (by omega))
      simp only [span_Nth.l0]
      rw [if_pos (by omega), if_pos (by omega), if_pos (by omega), rd_nat, w1, if_neg hc, w2, wrap_succ hj hn]
theorem refNth_loop (l : List S32) (hn : l.length ≤ 9223372036854775807) : ∀ (d j : Nat) (i lo : Int), l.length - j = d → Asc lo (l.drop j) → -1099511627776 ≤ lo → 0 ≤ i → i ≤ 9223372036854775807 → Ev (fun k => kimberliteref01_Nth.l0 k l i (j : Int)) (nthRes (nthS (l.drop j) i))
  | 0, j, i, lo, h, _, _, _, _ => by
    rw [List.drop_eq_nil_of_le (by omega)]
    refine Ev.step (f := fun k => kimberliteref01_Nth.j1 k l i (j : Int) false) (fun k => by simp only [kimberliteref01_Nth.l0]; rw [if_neg (by omega)]) ?_
    exact Ev.step (f := fun _ => some (0, 6)) (fun k => by simp only [kimberliteref01_Nth.j1]; simp) (Ev.now _)
  | d + 1, j, i, lo, h, ha, hlo, h0, h9 => by
    have hj : j < l.length := by omega
    rw [drop_cons l j hj] at ha ⊢
    obtain ⟨h1, h2, h3, h4⟩ := ha
    have w1 : wrap64 ((l.getD j z32).f1 - (l.getD j z32).f0) = (l.getD j z32).f1 - (l.getD j z32).f0 := by unfold wrap64; omega
    have w2 : wrap64 (i - ((l.getD j z32).f1 - (l.getD j z32).f0)) = i - ((l.getD j z32).f1 - (l.getD j z32).f0) := by unfold wrap64; omega
    rw [nthS]
    refine Ev.step (f := fun k => kimberliteref01_Nth.j1 k l i (j : Int) true) (fun k => by simp only [kimberliteref01_Nth.l0]; rw [if_pos (by omega)]; simp [h0]) ?_
    by_cases hc : i < (l.getD j z32).f1 - (l.getD j z32).f0
    · rw [if_pos hc]
      have w3 : wrap64 ((l.getD j z32).f0 + i) = (l.getD j z32).f0 + i := by unfold wrap64; omega
      refine Ev.step (f := fun _ => some ((l.getD j z32).f0 + i, 0)) (fun k => ?_) (Ev.now _)
      simp only [kimberliteref01_Nth.j1]
      rw [if_pos trivial, if_pos (by omega), if_pos (by omega), rd_nat, w1, if_pos hc, w3]
    · rw [if_neg hc]
      refine Ev.step (f := fun k => kimberliteref01_Nth.l0 k l (i - ((l.getD j z32).f1 - (l.getD j z32).f0)) ((j + 1 : Nat) : Int)) (fun k => ?_) (refNth_loop l hn d (j + 1) _ _ (by omega) h4 (by omega) (by omega) (by omega))
      simp only [kimberliteref01_Nth.j1]
      rw [if_pos trivial, if_pos (by omega), if_pos (by omega), rd_nat, w1, if_neg hc, w2, wrap_succ hj hn]
theorem refNth_neg (l : List S32) (i : Int) (h : i < 0) : Ev (fun k => kimberliteref01_Nth.l0 k l i 0) (0, 6) := by
  refine Ev.step (f := fun k => kimberliteref01_Nth.j1 k l i 0 false) (fun k => ?_) ?_
  · simp only [kimberliteref01_Nth.l0]
    by_cases hc : (0 : Int) < (l.length : Int)
    · rw [if_pos hc]; congr 1; simpa using h
    · rw [if_neg hc]
  · exact Ev.step (f := fun _ => some (0, 6)) (fun k => by simp only [kimberliteref01_Nth.j1]; simp) (Ev.now _)
def nthR (l : List S32) (i : Int) : Int × Int := if validS l = true then (if i < 0 then (0, 6) else nthRes (nthS l i)) else (0, 2)
theorem spanNth_ev (l : List S32) (i : Int) (hn : l.length ≤ 9223372036854775807) (hi : i ≤ 9223372036854775807) : Ev (fun k => span_Nth.f k l i) (nthR l i) := by
  unfold span_Nth.f nthR
  refine Ev.bind (spanSize_ev l hn) ?_
  unfold rankR
  cases hv : validS l with
  | false => exact Ev.now _
  | true =>
    have ha := (asc_valid hv).2
    have hs := size_eq hv
    simp only [if_true, ↓reduceIte]
    by_cases h0 : i < 0
    · simp only [h0, if_true, ↓reduceIte]
      exact Ev.step (f := fun _ => some (0, 6)) (fun k => by simp only [span_Nth.j0]; simp) (Ev.now _)
    · simp only [h0, if_false, ↓reduceIte]
      rw [hs.1]
      by_cases hc : i ≥ szS l
      · rw [nthS_none l _ i ha hc]
        exact Ev.step (f := fun _ => some (0, 6)) (fun k => by simp only [span_Nth.j0]; simp [hc]) (Ev.now _)
      · refine Ev.step (f := fun k => span_Nth.l0 k i l (l.length : Int) 0) (fun k => by simp only [span_Nth.j0]; simp [hc]) ?_
        simpa using spanNth_loop l hn _ 0 i _ rfl (by simpa using ha) (by omega) (by omega) hi
theorem refNth_ev (l : List S32) (i : Int) (hn : l.length ≤ 9223372036854775807) (hi : i ≤ 9223372036854775807) : Ev (fun k => kimberliteref01_Nth.f k l i) (nthR l i) := by
  unfold kimberliteref01_Nth.f nthR
  refine Ev.bind (refValid_ev l hn) ?_
  cases hv : validS l with
  | false => exact Ev.now _
  | true =>
    have ha := (asc_valid hv).2
    simp only [if_true, ↓reduceIte]
    by_cases h0 : i < 0
    · simp only [h0, if_true, ↓reduceIte]
      exact refNth_neg l i h0
    · simp only [h0, if_false, ↓reduceIte]
      simpa using refNth_loop l hn _ 0 i _ rfl (by simpa using ha) (by omega) (by omega) hi
end Go.Proofs.Ytningpmoojnomaa.Pr
