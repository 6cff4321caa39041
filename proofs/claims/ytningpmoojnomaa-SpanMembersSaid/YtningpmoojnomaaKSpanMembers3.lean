/- What the proof of the law needs, trimmed and merged by wip/pack.py out of the texts YtningpmoojnomaaTol, YtningpmoojnomaaPrx32, YtningpmoojnomaaAlg, YtningpmoojnomaaPie, YtningpmoojnomaaAdj, YtningpmoojnomaaRowI, YtningpmoojnomaaExtReg. No condition. -/
import Derived.Lib.SlicesCompact
import Derived.WalkKit
import Derived.OwnWalkIn
import Derived.TacticsInMore
import Derived.Deep.RegionHeld3
import Derived.Tactics2
import Derived.Shelf.RegionOpen
import Derived.RangeFuncBox
import Derived.Test.YtningpmoojnomaaKSpanMembers0
import Derived.Test.YtningpmoojnomaaKSpanMembers1
import Derived.Test.YtningpmoojnomaaKSpanMembers2
section
namespace Go.Proofs.Ytningpmoojnomaa.Pr
open Go.RowKit Go.Proofs.YtningpmoojnomaaW.PrintWords Go.Proofs.YtningpmoojnomaaW.PrintLast Go.Proofs.YtningpmoojnomaaW.PrintMore
set_option linter.unusedVariables false
set_option linter.unusedSimpArgs false
def GoodL (l : List S32) : Prop := ∀ s ∈ l, -1099511627776 ≤ s.f0 ∧ s.f0 < s.f1 ∧ s.f1 ≤ 1099511627776
theorem goodL_asc : ∀ (l : List S32) (lo : Int), Asc lo l → -1099511627776 ≤ lo → GoodL l
  | [], _, _, _ => fun s hs => by cases hs
  | s :: t, lo, ⟨h1, h2, h3, h4⟩, hlo => fun x hx => by
    rcases List.mem_cons.1 hx with rfl | hx
    · exact ⟨by omega, h2, h3⟩
    · exact goodL_asc t _ h4 (by omega) x hx
theorem asc_pair : ∀ (l : List S32) (lo : Int), Asc lo l → l.Pairwise (fun a b => a.f1 < b.f0) ∧ ∀ s ∈ l, lo ≤ s.f0
  | [], _, _ => ⟨List.Pairwise.nil, fun s hs => by cases hs⟩
  | s :: t, lo, ⟨h1, h2, h3, h4⟩ => by
    obtain ⟨p, q⟩ := asc_pair t _ h4
    refine ⟨List.pairwise_cons.2 ⟨fun x hx => by have := q x hx; omega, p⟩, fun x hx => ?_⟩
    rcases List.mem_cons.1 hx with rfl | hx
    · exact h1
    · have := q x hx; omega
theorem pairwise_of_asc {l : List S32} {lo : Int} (h : Asc lo l) (hlo : -1099511627776 ≤ lo) : l.Pairwise (fun a b => a.f0 ≤ b.f0) := by
  have hg := goodL_asc l lo h hlo
  have hp := (asc_pair l lo h).1
  refine hp.imp_of_mem (fun {a b} ha hb hab => ?_)
  have := hg a ha
  omega
theorem good_at' {l : List S32} (hg : GoodL l) {i : Nat} (hi : i < l.length) : -1099511627776 ≤ (l.getD i z32).f0 ∧ (l.getD i z32).f0 < (l.getD i z32).f1 ∧ (l.getD i z32).f1 ≤ 1099511627776 := by
  refine hg _ ?_
  rw [List.getD_eq_getElem?_getD, List.getElem?_eq_getElem hi]
  exact List.getElem_mem hi
def gS (r : Int) (s : S32) : S32 := ⟨max (-1099511627776) (s.f0 - r), min 1099511627776 (s.f1 + r)⟩
theorem gS_good {r : Int} {l : List S32} (h : GoodL l) (hr : 0 ≤ r) : GoodL (l.map (gS r)) := fun s hs => by
  obtain ⟨x, hx, rfl⟩ := List.mem_map.1 hs
  have := h x hx
  simp only [gS]
  omega
def growL (r : Int) (l : List S32) : List S32 := madeL 0 (l.map (gS r)) []
def growR (l : List S32) (r : Int) : List S32 × Int := if validS l = true ∧ 0 ≤ r ∧ r ≤ 1099511627776 then (growL r l, 0) else ([], 2)
theorem valid_good {l : List S32} (h : validS l = true) : l.length ≤ 128 ∧ GoodL l := ⟨(asc_valid h).1, goodL_asc l _ (asc_valid h).2 (Int.le_refl _)⟩
theorem growL_spec {l : List S32} (hg : GoodL l) {r : Int} (h0 : 0 ≤ r) : Asc (-1099511627776) (growL r l) ∧ ∀ x, memS (growL r l) x = memS (l.map (gS r)) x := by
  obtain ⟨ha, hm⟩ := made_spec 0 (l.map (gS r)) [] (fun s hs => by
    rcases hs with hs | hs
    · exact gS_good hg h0 s hs
    · cases hs)
  exact ⟨ha, fun x => by rw [growL, hm x, memS_nil]; simp [keepsB]⟩
theorem jn_grow {l : List S32} (h : validS l = true) {r : Int} (h0 : 0 ≤ r) : jn (l.map (gS r)) none = growL r l := by
  obtain ⟨hl, hg⟩ := valid_good h
  have hp := pairwise_of_asc (asc_valid h).2 (Int.le_refl _)
  have hp' : (l.map (gS r)).Pairwise (fun a b => a.f0 ≤ b.f0) := by
    rw [List.pairwise_map]
    refine hp.imp (fun {a b} hab => ?_)
    simp only [gS]
    omega
  obtain ⟨ha, hm⟩ := jn_spec (l.map (gS r)) none (-1099511627776) hp' (gS_good hg h0) (fun c hc => by cases hc)
  obtain ⟨ha', hm'⟩ := growL_spec hg h0
  refine canon _ _ _ _ ha ha' (fun x => ?_)
  rw [hm x, hm' x]
  rfl
theorem growS_eq {l : List S32} (hg : GoodL l) {r : Int} (h0 : 0 ≤ r) (h1 : r ≤ 1099511627776) : l.map (growS r) = l.map (gS r) := by
  refine List.map_congr_left (fun s hs => ?_)
  have := hg s hs
  unfold growS
  rw [mx_eq, mn_eq]
  unfold wrap64 gS
  congr 1 <;> omega
theorem spanRadius_ev (l : List S32) (r : Int) (hn : l.length ≤ 9223372036854775807) : Ev (fun k => span_radius.f k l r) (decide (validS l = true ∧ 0 ≤ r ∧ r ≤ 1099511627776)) := by
  unfold span_radius.f
  refine Ev.bind (spanValid_ev l hn) ?_
  by_cases hv : validS l = true
  · simp only [hv, if_true, true_and]
    by_cases h0 : 0 ≤ r
    · simp only [if_pos h0, h0, true_and]
      exact Ev.now _
    · simp only [if_neg h0, h0, false_and, decide_false]
      exact Ev.now _
  · simp only [hv, if_false, false_and, decide_false]
    exact Ev.now _
theorem spanGrow_ev (l : List S32) (r : Int) (hn : l.length ≤ 9223372036854775807) : Ev (fun k => span_Grow.f k l r) (growR l r) := by
  unfold span_Grow.f growR
  refine Ev.bind (spanRadius_ev l r hn) ?_
  by_cases h : validS l = true ∧ 0 ≤ r ∧ r ≤ 1099511627776
  · obtain ⟨hl, hg⟩ := valid_good h.1
    simp only [decide_eq_true h, if_true, if_pos h, clone_f hl, Option.bind_some]
    have hj := joined_ev (l.map (growS r)) (by simp; omega)
    rw [growS_eq hg h.2.1 h.2.2, jn_grow h.1 h.2.1] at hj
    simp only [growS_eq hg h.2.1 h.2.2]
    exact Ev.bind hj (Ev.now _)
  · simp only [decide_eq_false h, if_neg h, Bool.false_eq_true, if_false]
    exact Ev.now _
def shLo (r : Int) (s : S32) : Int := if s.f0 > -1099511627776 then s.f0 + r else s.f0
def shHi (r : Int) (s : S32) : Int := if s.f1 < 1099511627776 then s.f1 - r else s.f1
def shS (r : Int) (s : S32) : Option S32 := if shLo r s < shHi r s then some ⟨shLo r s, shHi r s⟩ else none
def shrinkL (r : Int) (l : List S32) : List S32 := l.filterMap (shS r)
def shrinkR (l : List S32) (r : Int) : List S32 × Int := if validS l = true ∧ 0 ≤ r ∧ r ≤ 1099511627776 then (shrinkL r l, 0) else ([], 2)
theorem spanShrink_loop (l : List S32) (r : Int) (hl : l.length ≤ 1000) (hg : GoodL l) (h0 : 0 ≤ r) (h1 : r ≤ 1099511627776) : ∀ (d i : Nat) (out : List S32), l.length - i = d → i ≤ l.length → out.length ≤ i →
    Ev (fun k => span_Shrink.l0 k r out l (l.length : Int) (i : Int)) (out ++ shrinkL r (l.drop i), 0)
  | 0, i, out, h, hi', ho => by
    rw [List.drop_eq_nil_of_le (by omega)]
    exact Ev.step (f := fun _ => some (out ++ [], 0)) (fun k => by simp only [span_Shrink.l0]; rw [if_neg (by omega)]; simp) (Ev.now _)
  | d + 1, i, out, h, hi', ho => by
    have hi : i < l.length := by omega
    have hx := good_at' hg hi
    rw [drop_cons l i hi]
    generalize hs : l.getD i z32 = s at hx
    have e0 : wrap64 (s.f0 + r) = s.f0 + r := by unfold wrap64; omega
    have e1 : wrap64 (s.f1 - r) = s.f1 - r := by unfold wrap64; omega
    refine Ev.step (f := fun k => span_Shrink.j1 k r out l (l.length : Int) (i : Int) (shLo r s) s.f1) (fun k => ?_) ?_
    · simp only [span_Shrink.l0, shLo]
      rw [if_pos (by omega), if_pos (by omega), if_pos (by omega), rd_nat, hs, e0]
      by_cases hc : s.f0 > -1099511627776
      · rw [if_pos hc, if_pos hc]
      · rw [if_neg hc, if_neg hc]
    refine Ev.step (f := fun k => span_Shrink.j2 k r out l (l.length : Int) (i : Int) (shLo r s) (shHi r s)) (fun k => ?_) ?_
    · simp only [span_Shrink.j1, shHi]
      rw [e1]
      by_cases hc : s.f1 < 1099511627776
      · rw [if_pos hc, if_pos hc]
      · rw [if_neg hc, if_neg hc]
    unfold shrinkL
    rw [List.filterMap_cons, shS]
    by_cases hc : shLo r s < shHi r s
    · rw [if_pos hc]
      have := spanShrink_loop l r hl hg h0 h1 d (i + 1) (out ++ [⟨shLo r s, shHi r s⟩]) (by omega) (by omega) (by simp; omega)
      rw [List.append_assoc, List.singleton_append] at this
      refine Ev.step (fun k => ?_) this
      simp only [span_Shrink.j2]
      rw [if_pos hc, if_pos (by omega), wrap_succ hi (by omega)]
    · rw [if_neg hc]
      have := spanShrink_loop l r hl hg h0 h1 d (i + 1) out (by omega) (by omega) (by omega)
      refine Ev.step (fun k => ?_) this
      simp only [span_Shrink.j2]
      rw [if_neg hc, wrap_succ hi (by omega)]
theorem spanShrink_ev (l : List S32) (r : Int) (hn : l.length ≤ 9223372036854775807) : Ev (fun k => span_Shrink.f k l r) (shrinkR l r) := by
  unfold span_Shrink.f shrinkR
  refine Ev.bind (spanRadius_ev l r hn) ?_
  by_cases h : validS l = true ∧ 0 ≤ r ∧ r ≤ 1099511627776
  · obtain ⟨hl, hg⟩ := valid_good h.1
    simp only [decide_eq_true h, if_true, if_pos h]
    have := spanShrink_loop l r (by omega) hg h.2.1 h.2.2 _ 0 [] rfl (by omega) (by simp)
    simpa using this
  · simp only [decide_eq_false h, if_neg h, Bool.false_eq_true, if_false]
    exact Ev.now _
theorem shrink_asc (r : Int) (h0 : 0 ≤ r) : ∀ (l : List S32) (lo : Int), Asc lo l → -1099511627776 ≤ lo → Asc lo (shrinkL r l)
  | [], _, _, _ => trivial
  | s :: t, lo, ⟨h1, h2, h3, h4⟩, hlo => by
    have ih := shrink_asc r h0 t _ h4 (by omega)
    unfold shrinkL at ih ⊢
    have b0 : s.f0 ≤ shLo r s := by unfold shLo; by_cases hc : s.f0 > -1099511627776 <;> simp [hc] <;> omega
    have b1 : shHi r s ≤ s.f1 := by unfold shHi; by_cases hc : s.f1 < 1099511627776 <;> simp [hc] <;> omega
    rw [List.filterMap_cons, shS]
    by_cases hc : shLo r s < shHi r s
    · rw [if_pos hc]
      exact ⟨by simp only; omega, hc, by simp only; omega, asc_mono _ _ _ (by simp only; omega) ih⟩
    · rw [if_neg hc]
      exact asc_mono _ _ _ (by omega) ih
theorem pair_or {R : S32 → S32 → Prop} : ∀ {l : List S32}, l.Pairwise R → ∀ a ∈ l, ∀ b ∈ l, a = b ∨ R a b ∨ R b a
  | [], _, a, ha, _, _ => by cases ha
  | s :: t, h, a, ha, b, hb => by
    rw [List.pairwise_cons] at h
    rcases List.mem_cons.1 ha with rfl | ha'
    · rcases List.mem_cons.1 hb with rfl | hb'
      · exact .inl rfl
      · exact .inr (.inl (h.1 b hb'))
    · rcases List.mem_cons.1 hb with rfl | hb'
      · exact .inr (.inr (h.1 a ha'))
      · exact pair_or h.2 a ha' b hb'
/-- WHAT IS IN A SHRUNKEN SET: all neighbours are in the set. -/
theorem shrink_mem {l : List S32} (ha : Asc (-1099511627776) l) {r : Int} (h0 : 0 ≤ r) (x : Int) :
    memS (shrinkL r l) x = true ↔ (-1099511627776 ≤ x ∧ x < 1099511627776 ∧ ∀ y, -1099511627776 ≤ y → y < 1099511627776 → x - r ≤ y → y ≤ x + r → memS l y = true) := by
  have hg := goodL_asc l _ ha (Int.le_refl _)
  have hp := (asc_pair l _ ha).1
  constructor
  · intro h
    obtain ⟨s', hs', h1, h2⟩ := (memS_iff _ _).1 h
    obtain ⟨s, hs, he⟩ := List.mem_filterMap.1 hs'
    have g := hg s hs
    unfold shS at he
    by_cases hc : shLo r s < shHi r s
    · rw [if_pos hc] at he
      injection he with he
      subst he
      simp only at h1 h2
      unfold shLo at h1
      unfold shHi at h2
      refine ⟨?_, ?_, fun y y1 y2 y3 y4 => (memS_iff _ _).2 ⟨s, hs, ?_, ?_⟩⟩
      · split at h1 <;> omega
      · split at h2 <;> omega
      · split at h1 <;> omega
      · split at h2 <;> omega
    · rw [if_neg hc] at he
      cases he
  · rintro ⟨x1, x2, hy⟩
    obtain ⟨s, hs, m1, m2⟩ := (memS_iff _ _).1 (hy x x1 x2 (by omega) (by omega))
    have g := hg s hs
    -- no other span touches this one
    have hlo : shLo r s ≤ x := by
      unfold shLo
      by_cases hc : s.f0 > -1099511627776
      · rw [if_pos hc]
        refine Int.not_lt.1 fun hlt => ?_
        obtain ⟨s', hs', n1, n2⟩ := (memS_iff _ _).1 (hy (s.f0 - 1) (by omega) (by omega) (by omega) (by omega))
        have g' := hg s' hs'
        rcases pair_or hp s' hs' s hs with rfl | h | h <;> omega
      · rw [if_neg hc]; exact m1
    have hhi : x < shHi r s := by
      unfold shHi
      by_cases hc : s.f1 < 1099511627776
      · rw [if_pos hc]
        refine Int.not_le.1 fun hle => ?_
        obtain ⟨s', hs', n1, n2⟩ := (memS_iff _ _).1 (hy s.f1 (by omega) (by omega) (by omega) (by omega))
        have g' := hg s' hs'
        rcases pair_or hp s' hs' s hs with rfl | h | h <;> omega
      · rw [if_neg hc]; exact m2
    refine (memS_iff _ _).2 ⟨⟨shLo r s, shHi r s⟩, List.mem_filterMap.2 ⟨s, hs, ?_⟩, hlo, hhi⟩
    unfold shS
    rw [if_pos (by omega)]
/-- What is in a grown set: a neighbour is in the set. -/
theorem grow_mem {l : List S32} (hg : GoodL l) {r : Int} (h0 : 0 ≤ r) (x : Int) :
    memS (l.map (gS r)) x = true ↔ (-1099511627776 ≤ x ∧ x < 1099511627776 ∧ ∃ y, x - r ≤ y ∧ y ≤ x + r ∧ memS l y = true) := by
  constructor
  · intro h
    obtain ⟨s', hs', h1, h2⟩ := (memS_iff _ _).1 h
    obtain ⟨s, hs, rfl⟩ := List.mem_map.1 hs'
    have g := hg s hs
    simp only [gS] at h1 h2
    refine ⟨by omega, by omega, max s.f0 (min x (s.f1 - 1)), by omega, by omega, (memS_iff _ _).2 ⟨s, hs, by omega, by omega⟩⟩
  · rintro ⟨x1, x2, y, y1, y2, hy⟩
    obtain ⟨s, hs, m1, m2⟩ := (memS_iff _ _).1 hy
    have g := hg s hs
    refine (memS_iff _ _).2 ⟨gS r s, List.mem_map_of_mem hs, ?_, ?_⟩
    · simp only [gS]; omega
    · simp only [gS]; omega
def whole : List S32 := [⟨-1099511627776, 1099511627776⟩]
theorem good_two {a b : List S32} (ha : GoodL a) (hb : GoodL b) : ∀ s, s ∈ a ∨ s ∈ b → -1099511627776 ≤ s.f0 ∧ s.f0 < s.f1 ∧ s.f1 ≤ 1099511627776 := fun s hs => hs.elim (ha s) (hb s)
end Go.Proofs.Ytningpmoojnomaa.Pr
end
section
namespace Go.Proofs.Ytningpmoojnomaa.Pr
open Go.RowKit Go.Proofs.YtningpmoojnomaaW.PrintWords Go.Proofs.YtningpmoojnomaaW.PrintLast Go.Proofs.YtningpmoojnomaaW.PrintMore
attribute [local go_sem] max2_int min2_int max_two min_two max_three min_three max_four min_four   -- for this text's walks alone
set_option linter.unusedVariables false
set_option linter.unusedSimpArgs false
mutual
def kimberlitelaw01_sets.l0 : Nat → List (S32) → List (S32) → Int → Option ((List (S32)))
 | 0, _, _, _ => none
 | k + 1, x0, x3, x4 => if x4 < (x0.length : Int) then (kimberlitelaw01_sets.j1 k x0 x3 x4 (decide ((x3.length : Int) < 60))) else (kimberlitelaw01_sets.j1 k x0 x3 x4 false)
def kimberlitelaw01_sets.j1 : Nat → List (S32) → List (S32) → Int → Bool → Option ((List (S32)))
 | 0, _, _, _, _ => none
 | k + 1, x0, x3, x4, x15 => if x15 = true then (if 0 ≤ x4 then (if x4 < (x0.length : Int) then (if ((rd_T32 x0 x4).f0) ≥ (-1099511627776) then (if ((rd_T32 x0 x4).f0) < ((rd_T32 x0 x4).f1) then (kimberlitelaw01_sets.j2 k x0 x3 x4 (decide (((rd_T32 x0 x4).f1) ≤ 1099511627776))) else (kimberlitelaw01_sets.j2 k x0 x3 x4 false)) else (kimberlitelaw01_sets.j2 k x0 x3 x4 false)) else (none)) else (none)) else ((span_Of.f k x3).bind fun bt474 => (some bt474.1))
def kimberlitelaw01_sets.j2 : Nat → List (S32) → List (S32) → Int → Bool → Option ((List (S32)))
 | 0, _, _, _, _ => none
 | k + 1, x0, x3, x4, x44 => if x44 = true then (if 0 ≤ x4 then (if x4 < (x0.length : Int) then (if x3.length < 8796093022208 then (kimberlitelaw01_sets.l0 k x0 (x3 ++ [(⟨(rd_T32 x0 x4).f0, (rd_T32 x0 x4).f1⟩ : S32)]) (wrap64 (x4 + 1))) else (none)) else (none)) else (none)) else (kimberlitelaw01_sets.l0 k x0 x3 (wrap64 (x4 + 1)))
end
def kimberlitelaw01_sets.f (k : Nat) (l0 : List (S32)) : Option ((List (S32))) := kimberlitelaw01_sets.l0 k l0 ([] : List (S32)) 0
theorem kimberlitelaw01_sets.mono_l : ∀ k, (∀ y0 y1 y2, LeO (kimberlitelaw01_sets.l0 k y0 y1 y2) (kimberlitelaw01_sets.l0 (k + 1) y0 y1 y2)) ∧ (∀ y0 y1 y2 y3, LeO (kimberlitelaw01_sets.j1 k y0 y1 y2 y3) (kimberlitelaw01_sets.j1 (k + 1) y0 y1 y2 y3)) ∧ (∀ y0 y1 y2 y3, LeO (kimberlitelaw01_sets.j2 k y0 y1 y2 y3) (kimberlitelaw01_sets.j2 (k + 1) y0 y1 y2 y3))
 | 0 => ⟨fun _ _ _ r h => by simp [kimberlitelaw01_sets.l0] at h, fun _ _ _ _ r h => by simp [kimberlitelaw01_sets.j1] at h, fun _ _ _ _ r h => by simp [kimberlitelaw01_sets.j2] at h⟩
 | k + 1 => by
  obtain ⟨ih0, ih1, ih2⟩ := kimberlitelaw01_sets.mono_l k
  refine ⟨?_, ?_, ?_⟩
  · intro y0 y1 y2
    unfold kimberlitelaw01_sets.l0
    repeat' first
    | (with_reducible exact ih0 _ _ _)
    | (with_reducible exact ih1 _ _ _ _)
    | (with_reducible exact ih2 _ _ _ _)
    | (with_reducible exact span_Of.mono _ _)
    | (with_reducible exact LeO.refl _)
    | (with_reducible exact LeO.none _)
    | (with_reducible refine LeO.ite ?_ ?_)
    | (with_reducible refine LeO.bind ?_ (fun _ => ?_))
    | exact ih0 _ _ _
    | exact ih1 _ _ _ _
    | exact ih2 _ _ _ _
    | exact span_Of.mono _ _
    | exact LeO.none _
    | refine LeO.ite ?_ ?_
    | refine LeO.bind ?_ (fun _ => ?_)
  · intro y0 y1 y2 y3
    unfold kimberlitelaw01_sets.j1
    repeat' first
    | (with_reducible exact ih0 _ _ _)
    | (with_reducible exact ih1 _ _ _ _)
    | (with_reducible exact ih2 _ _ _ _)
    | (with_reducible exact span_Of.mono _ _)
    | (with_reducible exact LeO.refl _)
    | (with_reducible exact LeO.none _)
    | (with_reducible refine LeO.ite ?_ ?_)
    | (with_reducible refine LeO.bind ?_ (fun _ => ?_))
    | exact ih0 _ _ _
    | exact ih1 _ _ _ _
    | exact ih2 _ _ _ _
    | exact span_Of.mono _ _
    | exact LeO.none _
    | refine LeO.ite ?_ ?_
    | refine LeO.bind ?_ (fun _ => ?_)
  · intro y0 y1 y2 y3
    unfold kimberlitelaw01_sets.j2
    repeat' first
    | (with_reducible exact ih0 _ _ _)
    | (with_reducible exact ih1 _ _ _ _)
    | (with_reducible exact ih2 _ _ _ _)
    | (with_reducible exact span_Of.mono _ _)
    | (with_reducible exact LeO.refl _)
    | (with_reducible exact LeO.none _)
    | (with_reducible refine LeO.ite ?_ ?_)
    | (with_reducible refine LeO.bind ?_ (fun _ => ?_))
    | exact ih0 _ _ _
    | exact ih1 _ _ _ _
    | exact ih2 _ _ _ _
    | exact span_Of.mono _ _
    | exact LeO.none _
    | refine LeO.ite ?_ ?_
    | refine LeO.bind ?_ (fun _ => ?_)
theorem kimberlitelaw01_sets.mono : ∀ a0 k, LeO (kimberlitelaw01_sets.f k a0) (kimberlitelaw01_sets.f (k + 1) a0) := by
 intro a0 k
 obtain ⟨ih0, ih1, ih2⟩ := kimberlitelaw01_sets.mono_l k
 unfold kimberlitelaw01_sets.f
 repeat' first
  | (with_reducible exact ih0 _ _ _)
  | (with_reducible exact ih1 _ _ _ _)
  | (with_reducible exact ih2 _ _ _ _)
  | (with_reducible exact span_Of.mono _ _)
  | (with_reducible exact LeO.refl _)
  | (with_reducible exact LeO.none _)
  | (with_reducible refine LeO.ite ?_ ?_)
  | (with_reducible refine LeO.bind ?_ (fun _ => ?_))
  | exact ih0 _ _ _
  | exact ih1 _ _ _ _
  | exact ih2 _ _ _ _
  | exact span_Of.mono _ _
  | exact LeO.none _
  | refine LeO.ite ?_ ?_
  | refine LeO.bind ?_ (fun _ => ?_)
set_option maxHeartbeats 8000000 in
set_option maxRecDepth 100000 in
theorem kimberlitelaw01_sets.calls (k : Nat) (A0 : Option Addr) (c0 : Nat) (l0 : List (S32)) (r : List (S32)) (w : World) (hr0 : Kd.C k32 w A0 l0.length l0) (hc0 : l0.length ≤ c0) (h : kimberlitelaw01_sets.f k l0 = some r) :
 Calls Try.prog 56 #[.slice A0 l0.length c0] w fun e w' => ∃ v0_ : Value, e = .returned (v0_) ∧ Kd.R k32 32 w' w.heap.size (fun _ => True) v0_ r ∧ Below w.heap.size w w' := by
 have hu32 := Try.underlying32
 have HR0 := Aside0.mk hr0
 have HC0 := Aside0.mk hc0
 clear hr0 hc0
 have HB := Aside0.mk (Below.refl w.heap.size w)
 have H : (kimberlitelaw01_sets.l0 k l0 ([] : List (S32)) 0) = some r := h
 clear h
 have H' := Aside0.mk H
 clear H
 go_enter Try.func56, Try.ntmps56
 go_wp2
 repeat (go_quiet (fail); try go_wp2)
 go_loopg [3, 4] k (fun kq v3 v4 w' => ∃ (x3_1 : List (S32)) (x4_1 : Int), v4 = .int .i64 x4_1 ∧ Aside0 (kimberlitelaw01_sets.l0 kq l0 x3_1 x4_1 = some r) ∧ Aside0 (kq ≤ k) ∧ Aside0 (Kd.R k32 32 w' w.heap.size (fun _ => True) v3 x3_1) ∧ Aside0 (Below w.heap.size w w'))
 case atStart => exact ⟨(([] : List (S32))), (0), (by first | rfl | (simp; done) | (simp [*]; done)), H', ⟨Nat.le_refl _⟩, ⟨by first | exact Kd.R_nil _ _ _ _ _ | exact Kd.N_nil _ _ _ _ _ | exact Kd.V_nil _ _ _ _ _ | exact Kd.Q_nil _ _ _ _ _ | exact Kd.S_nil _ _ _ _ _⟩, ⟨by repeat (first | (with_reducible first | exact HB.out | apply below_alloc | apply pw_below_drewN | apply below_drew1) | exact HB.out)⟩⟩
 case round =>
  clear H'
  obtain ⟨x3_1, x4_1, rfl, HA, HK1, HO_3, HB⟩ := hrel
  cases gk with
  | zero => exact absurd HA.out (by simp [kimberlitelaw01_sets.l0])
  | succ k1 =>
   have H := HA.out
   clear HA
   simp only [kimberlitelaw01_sets.l0] at H
   have HC2 := Aside0.mk H
   clear H
   go_upto_region 3 with (fail)
   repeat (go_quiet (fail); go_upto_region 3 with (fail))
   go_cut [15] (fun v15 wc => ∃ (kq : Nat) (x15_1 : Bool), v15 = .bool x15_1 ∧ Aside0 (kimberlitelaw01_sets.j1 kq l0 x3_1 x4_1 x15_1 = some r) ∧ Aside0 (kq ≤ k1) ∧ Aside0 (Kd.R k32 32 wc w.heap.size (fun _ => True) u3 x3_1) ∧ Aside0 (Below w.heap.size w wc))
   case first =>
    have H := HC2.out
    clear HC2
    by_cases c3 : x4_1 < (l0.length : Int)
    · rw [if_pos c3] at H
      have c3b0 : decide (x4_1 < (l0.length : Int)) = true := decide_eq_true c3
      clear c3
      (first | rw [c3b0] | (simp only [i64_w, i32_w]; rw [c3b0]) | skip)
      have H' := Aside0.mk H
      clear H
      obtain ⟨Ao4, co4, eo4⟩ := Kd.R_slice HO_3.out
      subst eo4
      go_wp2
      repeat (go_quiet (fail); try go_wp2)
      go_meet
      case rel => exact ⟨_, (decide ((x3_1.length : Int) < 60)), (by first | rfl | (simp; done) | (simp [*]; done)), H', ⟨by have := HK1.out; first | omega | exact Nat.le_refl _⟩, ⟨by (with_reducible repeat (first | apply Kd.R_alloc | apply Kd.R_drewN | apply Kd.R_drew)); exact HO_3.out⟩, ⟨by repeat (first | (with_reducible first | exact HB.out | apply below_alloc | apply pw_below_drewN | apply below_drew1) | exact HB.out)⟩⟩
    · rw [if_neg c3] at H
      have c3b0 : decide (x4_1 < (l0.length : Int)) = false := decide_eq_false c3
      clear c3
      (first | rw [c3b0] | (simp only [i64_w, i32_w]; rw [c3b0]) | skip)
      have H' := Aside0.mk H
      clear H
      go_wp2
      repeat (go_quiet (fail); try go_wp2)
      go_meet
      case rel => exact ⟨_, (false), (by first | rfl | (simp; done) | (simp [*]; done)), H', ⟨by have := HK1.out; first | omega | exact Nat.le_refl _⟩, ⟨by (with_reducible repeat (first | apply Kd.R_alloc | apply Kd.R_drewN | apply Kd.R_drew)); exact HO_3.out⟩, ⟨by repeat (first | (with_reducible first | exact HB.out | apply below_alloc | apply pw_below_drewN | apply below_drew1) | exact HB.out)⟩⟩
   case rest =>
    clear HC2
    try clear p2
    try clear c3
    try clear c3b0
    obtain ⟨kq, x15_1, rfl, HA, HJ1, HO_3, HB⟩ := hcut
    cases kq with
    | zero => exact absurd HA.out (by simp [kimberlitelaw01_sets.j1])
    | succ kj1 =>
     have H := HA.out
     clear HA
     simp only [kimberlitelaw01_sets.j1] at H
     by_cases c5 : x15_1 = true
     · subst c5
       have H1 : (if 0 ≤ x4_1 then (if x4_1 < (l0.length : Int) then (if ((rd_T32 l0 x4_1).f0) ≥ (-1099511627776) then (if ((rd_T32 l0 x4_1).f0) < ((rd_T32 l0 x4_1).f1) then (kimberlitelaw01_sets.j2 kj1 l0 x3_1 x4_1 (decide (((rd_T32 l0 x4_1).f1) ≤ 1099511627776))) else (kimberlitelaw01_sets.j2 kj1 l0 x3_1 x4_1 false)) else (kimberlitelaw01_sets.j2 kj1 l0 x3_1 x4_1 false)) else (none)) else (none)) = some r := by rw [if_pos rfl] at H; exact H
       clear H
       have H := H1
       clear H1
       have HC6 := Aside0.mk H
       clear H
       go_upto_region 5 with (fail)
       repeat (go_quiet (fail); go_upto_region 5 with (fail))
       go_cut [44] (fun v44 wc => ∃ (kq : Nat) (x44_5 : Bool), v44 = .bool x44_5 ∧ Aside0 (kimberlitelaw01_sets.j2 kq l0 x3_1 x4_1 x44_5 = some r) ∧ Aside0 (kq ≤ kj1) ∧ Aside0 (Kd.R k32 32 wc w.heap.size (fun _ => True) u3 x3_1) ∧ Aside0 (Below w.heap.size w wc))
       case first =>
        have H := HC6.out
        clear HC6
        by_cases c7 : 0 ≤ x4_1
        · rw [if_pos c7] at H
          have c7b0 : decide (0 ≤ x4_1) = true := decide_eq_true c7
          clear c7
          (first | rw [c7b0] | (simp only [i64_w, i32_w]; rw [c7b0]) | skip)
          by_cases c8 : x4_1 < (l0.length : Int)
          · rw [if_pos c8] at H
            have c8b0 : decide (x4_1 < (l0.length : Int)) = true := decide_eq_true c8
            clear c8
            by_cases c9 : ((rd_T32 l0 x4_1).f0) ≥ (-1099511627776)
            · rw [if_pos c9] at H
              have c9b0 : decide ((-1099511627776) ≤ ((rd_T32 l0 x4_1).f0)) = true := decide_eq_true c9
              clear c9
              by_cases c10 : ((rd_T32 l0 x4_1).f0) < ((rd_T32 l0 x4_1).f1)
              · rw [if_pos c10] at H
                have c10b0 : decide (((rd_T32 l0 x4_1).f0) < ((rd_T32 l0 x4_1).f1)) = true := decide_eq_true c10
                clear c10
                have H' := Aside0.mk H
                clear H
                have p466 : 0 ≤ (x4_1 : Int) := of_decide_eq_true (by first | (with_reducible assumption) | assumption)
                have q466 : x4_1 < (l0.length : Int) := of_decide_eq_true (by first | (with_reducible assumption) | assumption)
                obtain ⟨ad466, e466, hx466_0, hx466_1⟩ := at_T32 HR0.out x4_1 p466 q466
                cases e466
                replace hx466_0 := (HB.out.cell (World.block_lt_of_cell? w _ hx466_0)).trans hx466_0
                replace hx466_1 := (HB.out.cell (World.block_lt_of_cell? w _ hx466_1)).trans hx466_1
                replace p466 := eq_true p466
                replace q466 := eq_true q466
                have p467 : 0 ≤ (x4_1 : Int) := of_decide_eq_true (by first | (with_reducible assumption) | assumption)
                have q467 : x4_1 < (l0.length : Int) := of_decide_eq_true (by first | (with_reducible assumption) | assumption)
                obtain ⟨ad467, e467, hx467_0, hx467_1⟩ := at_T32 HR0.out x4_1 p467 q467
                obtain rfl : ad466 = ad467 := (by injection e467)
                replace hx467_0 := (HB.out.cell (World.block_lt_of_cell? w _ hx467_0)).trans hx467_0
                replace hx467_1 := (HB.out.cell (World.block_lt_of_cell? w _ hx467_1)).trans hx467_1
                replace p467 := eq_true p467
                replace q467 := eq_true q467
                have p468 : 0 ≤ (x4_1 : Int) := of_decide_eq_true (by first | (with_reducible assumption) | assumption)
                have q468 : x4_1 < (l0.length : Int) := of_decide_eq_true (by first | (with_reducible assumption) | assumption)
                obtain ⟨ad468, e468, hx468_0, hx468_1⟩ := at_T32 HR0.out x4_1 p468 q468
                obtain rfl : ad466 = ad468 := (by injection e468)
                replace hx468_0 := (HB.out.cell (World.block_lt_of_cell? w _ hx468_0)).trans hx468_0
                replace hx468_1 := (HB.out.cell (World.block_lt_of_cell? w _ hx468_1)).trans hx468_1
                replace p468 := eq_true p468
                replace q468 := eq_true q468
                have p469 : 0 ≤ (x4_1 : Int) := of_decide_eq_true (by first | (with_reducible assumption) | assumption)
                have q469 : x4_1 < (l0.length : Int) := of_decide_eq_true (by first | (with_reducible assumption) | assumption)
                obtain ⟨ad469, e469, hx469_0, hx469_1⟩ := at_T32 HR0.out x4_1 p469 q469
                obtain rfl : ad466 = ad469 := (by injection e469)
                replace hx469_0 := (HB.out.cell (World.block_lt_of_cell? w _ hx469_0)).trans hx469_0
                replace hx469_1 := (HB.out.cell (World.block_lt_of_cell? w _ hx469_1)).trans hx469_1
                replace p469 := eq_true p469
                replace q469 := eq_true q469
                go_wp2
                repeat (go_quiet (fail); try go_wp2)
                go_meet
                case rel => exact ⟨_, (decide (((rd_T32 l0 x4_1).f1) ≤ 1099511627776)), (by first | rfl | (simp; done) | (simp [*]; done)), H', ⟨by have := HK1.out; have := HJ1.out; first | omega | exact Nat.le_refl _⟩, ⟨by (with_reducible repeat (first | apply Kd.R_alloc | apply Kd.R_drewN | apply Kd.R_drew)); exact HO_3.out⟩, ⟨by repeat (first | (with_reducible first | exact HB.out | apply below_alloc | apply pw_below_drewN | apply below_drew1) | exact HB.out)⟩⟩
              · rw [if_neg c10] at H
                have c10b0 : decide (((rd_T32 l0 x4_1).f0) < ((rd_T32 l0 x4_1).f1)) = false := decide_eq_false c10
                clear c10
                have H' := Aside0.mk H
                clear H
                have p466 : 0 ≤ (x4_1 : Int) := of_decide_eq_true (by first | (with_reducible assumption) | assumption)
                have q466 : x4_1 < (l0.length : Int) := of_decide_eq_true (by first | (with_reducible assumption) | assumption)
                obtain ⟨ad466, e466, hx466_0, hx466_1⟩ := at_T32 HR0.out x4_1 p466 q466
                cases e466
                replace hx466_0 := (HB.out.cell (World.block_lt_of_cell? w _ hx466_0)).trans hx466_0
                replace hx466_1 := (HB.out.cell (World.block_lt_of_cell? w _ hx466_1)).trans hx466_1
                replace p466 := eq_true p466
                replace q466 := eq_true q466
                have p467 : 0 ≤ (x4_1 : Int) := of_decide_eq_true (by first | (with_reducible assumption) | assumption)
                have q467 : x4_1 < (l0.length : Int) := of_decide_eq_true (by first | (with_reducible assumption) | assumption)
                obtain ⟨ad467, e467, hx467_0, hx467_1⟩ := at_T32 HR0.out x4_1 p467 q467
                obtain rfl : ad466 = ad467 := (by injection e467)
                replace hx467_0 := (HB.out.cell (World.block_lt_of_cell? w _ hx467_0)).trans hx467_0
                replace hx467_1 := (HB.out.cell (World.block_lt_of_cell? w _ hx467_1)).trans hx467_1
                replace p467 := eq_true p467
                replace q467 := eq_true q467
                have p468 : 0 ≤ (x4_1 : Int) := of_decide_eq_true (by first | (with_reducible assumption) | assumption)
                have q468 : x4_1 < (l0.length : Int) := of_decide_eq_true (by first | (with_reducible assumption) | assumption)
                obtain ⟨ad468, e468, hx468_0, hx468_1⟩ := at_T32 HR0.out x4_1 p468 q468
                obtain rfl : ad466 = ad468 := (by injection e468)
                replace hx468_0 := (HB.out.cell (World.block_lt_of_cell? w _ hx468_0)).trans hx468_0
                replace hx468_1 := (HB.out.cell (World.block_lt_of_cell? w _ hx468_1)).trans hx468_1
                replace p468 := eq_true p468
                replace q468 := eq_true q468
                go_wp2
                repeat (go_quiet (fail); try go_wp2)
                go_meet
                case rel => exact ⟨_, (false), (by first | rfl | (simp; done) | (simp [*]; done)), H', ⟨by have := HK1.out; have := HJ1.out; first | omega | exact Nat.le_refl _⟩, ⟨by (with_reducible repeat (first | apply Kd.R_alloc | apply Kd.R_drewN | apply Kd.R_drew)); exact HO_3.out⟩, ⟨by repeat (first | (with_reducible first | exact HB.out | apply below_alloc | apply pw_below_drewN | apply below_drew1) | exact HB.out)⟩⟩
            · rw [if_neg c9] at H
              have c9b0 : decide ((-1099511627776) ≤ ((rd_T32 l0 x4_1).f0)) = false := decide_eq_false c9
              clear c9
              have H' := Aside0.mk H
              clear H
              have p466 : 0 ≤ (x4_1 : Int) := of_decide_eq_true (by first | (with_reducible assumption) | assumption)
              have q466 : x4_1 < (l0.length : Int) := of_decide_eq_true (by first | (with_reducible assumption) | assumption)
              obtain ⟨ad466, e466, hx466_0, hx466_1⟩ := at_T32 HR0.out x4_1 p466 q466
              cases e466
              replace hx466_0 := (HB.out.cell (World.block_lt_of_cell? w _ hx466_0)).trans hx466_0
              replace hx466_1 := (HB.out.cell (World.block_lt_of_cell? w _ hx466_1)).trans hx466_1
              replace p466 := eq_true p466
              replace q466 := eq_true q466
              go_wp2
              repeat (go_quiet (fail); try go_wp2)
              go_meet
              case rel => exact ⟨_, (false), (by first | rfl | (simp; done) | (simp [*]; done)), H', ⟨by have := HK1.out; have := HJ1.out; first | omega | exact Nat.le_refl _⟩, ⟨by (with_reducible repeat (first | apply Kd.R_alloc | apply Kd.R_drewN | apply Kd.R_drew)); exact HO_3.out⟩, ⟨by repeat (first | (with_reducible first | exact HB.out | apply below_alloc | apply pw_below_drewN | apply below_drew1) | exact HB.out)⟩⟩
          · rw [if_neg c8] at H
            exact absurd H (by simp)
        · rw [if_neg c7] at H
          exact absurd H (by simp)
       case rest =>
        clear HC6
        try clear c1
        try clear p2
        try clear c3
        try clear c3b0
        try clear p4
        try clear q4
        try clear hx4
        try clear c5
        try clear c7
        try clear c7b0
        try clear c8
        try clear c8b0
        try clear c9
        try clear c9b0
        try clear c10
        try clear c10b0
        try clear hx466_0
        try clear hx466_1
        try clear hx467_0
        try clear hx467_1
        try clear hx468_0
        try clear hx468_1
        try clear hx469_0
        try clear hx469_1
        try clear p2
        try clear p466
        try clear p467
        try clear p468
        try clear p469
        try clear q466
        try clear q467
        try clear q468
        try clear q469
        obtain ⟨kq, x44_5, rfl, HA, HJ5, HO_3, HB⟩ := hcut
        cases kq with
        | zero => exact absurd HA.out (by simp [kimberlitelaw01_sets.j2])
        | succ kj5 =>
         have H := HA.out
         clear HA
         simp only [kimberlitelaw01_sets.j2] at H
         by_cases c11 : x44_5 = true
         · subst c11
           have H1 : (if 0 ≤ x4_1 then (if x4_1 < (l0.length : Int) then (if x3_1.length < 8796093022208 then (kimberlitelaw01_sets.l0 kj5 l0 (x3_1 ++ [(⟨(rd_T32 l0 x4_1).f0, (rd_T32 l0 x4_1).f1⟩ : S32)]) (wrap64 (x4_1 + 1))) else (none)) else (none)) else (none)) = some r := by rw [if_pos rfl] at H; exact H
           clear H
           have H := H1
           clear H1
           by_cases c12 : 0 ≤ x4_1
           · rw [if_pos c12] at H
             have c12b0 : decide (0 ≤ x4_1) = true := decide_eq_true c12
             clear c12
             by_cases c13 : x4_1 < (l0.length : Int)
             · rw [if_pos c13] at H
               have c13b0 : decide (x4_1 < (l0.length : Int)) = true := decide_eq_true c13
               clear c13
               by_cases c14 : x3_1.length < 8796093022208
               · rw [if_pos c14] at H
                 have LMc14 := Aside0.mk c14
                 clear c14
                 obtain ⟨y471, hy471⟩ : ∃ y_ : List (S32), y_ = (x3_1 ++ [(⟨(rd_T32 l0 x4_1).f0, (rd_T32 l0 x4_1).f1⟩ : S32)]) := ⟨_, rfl⟩
                 replace H : (kimberlitelaw01_sets.l0 kj5 l0 y471 (wrap64 (x4_1 + 1))) = some r := by first | (rw [hy471]; with_reducible exact H) | (have H2_ := (Option.bind_some _ _).symm.trans H; rw [hy471]; with_reducible exact H2_) | (have H2_ := (Option.bind_some _ _).symm.trans H; with_reducible exact H2_) | with_reducible exact H | (rw [hy471]; exact H) | exact H
                 have Ny471 := Aside0.mk hy471
                 clear hy471
                 have H' := Aside0.mk H
                 clear H
                 have p470 : 0 ≤ (x4_1 : Int) := of_decide_eq_true (by first | (with_reducible assumption) | assumption)
                 have q470 : x4_1 < (l0.length : Int) := of_decide_eq_true (by first | (with_reducible assumption) | assumption)
                 obtain ⟨ad470, e470, hx470_0, hx470_1⟩ := at_T32 HR0.out x4_1 p470 q470
                 cases e470
                 replace hx470_0 := (HB.out.cell (World.block_lt_of_cell? w _ hx470_0)).trans hx470_0
                 replace hx470_1 := (HB.out.cell (World.block_lt_of_cell? w _ hx470_1)).trans hx470_1
                 replace p470 := eq_true p470
                 replace q470 := eq_true q470
                 go_wp2_with (first | ((with_reducible refine gate_builtin (b := .append) (xs := #[.tmp 45, .tmp 50]) rfl ?_); (try (refine gate_guard (by rfl) ?_; dsimp only)); at_builtin; refine Kd.R_append k32 (w0 := w) w.heap.size rfl (.tmp 45) (.tmp 50) 22 32 (.agg #[(.int .i64 0), (.int .i64 0)]) 16 rfl Try.underlying22 info32 rfl (by decide) (by omega) u3 x3_1 (⟨(rd_T32 l0 x4_1).f0, (rd_T32 l0 x4_1).f1⟩ : S32) [.int .i64 ((rd_T32 l0 x4_1).f0), .int .i64 ((rd_T32 l0 x4_1).f1)] (fun _ => True) (fun _ => False) rfl rfl ?aP (fun _ hk => hk.elim) ?aF ?aO ?aB ?aS ?aL ?_; (case aP => exact k32_mkM _ _ _ (⟨(rd_T32 l0 x4_1).f0, (rd_T32 l0 x4_1).f1⟩ : S32)); (case aB => exact (by repeat (first | (with_reducible first | exact HB.out | apply below_alloc | apply pw_below_drewN | apply below_drew1) | exact HB.out))); (case aF => exact (fun _ _ => trivial)); (case aO => exact (by (with_reducible repeat (first | apply Kd.R_alloc | apply Kd.R_drewN | apply Kd.R_drew)); exact HO_3.out)); (case aS => exact (below_size (by repeat (first | (with_reducible first | exact HB.out | apply below_alloc | apply pw_below_drewN | apply below_drew1) | exact HB.out)))); (case aL => have := LMc14.out; omega); intro v472 w15 ho hb hg hat; rw [← Ny471.out] at ho; have n0_ := Aside0.mk (hb); have n1_ := Aside0.mk (ho); clear HB; clear HO_3; have HB := n0_; have HO473 := n1_; clear n0_ n1_; clear ho hb hg hat))
                 repeat (go_quiet (fail); try go_wp2_with (first | ((with_reducible refine gate_builtin (b := .append) (xs := #[.tmp 45, .tmp 50]) rfl ?_); (try (refine gate_guard (by rfl) ?_; dsimp only)); at_builtin; refine Kd.R_append k32 (w0 := w) w.heap.size rfl (.tmp 45) (.tmp 50) 22 32 (.agg #[(.int .i64 0), (.int .i64 0)]) 16 rfl Try.underlying22 info32 rfl (by decide) (by omega) u3 x3_1 (⟨(rd_T32 l0 x4_1).f0, (rd_T32 l0 x4_1).f1⟩ : S32) [.int .i64 ((rd_T32 l0 x4_1).f0), .int .i64 ((rd_T32 l0 x4_1).f1)] (fun _ => True) (fun _ => False) rfl rfl ?aP (fun _ hk => hk.elim) ?aF ?aO ?aB ?aS ?aL ?_; (case aP => exact k32_mkM _ _ _ (⟨(rd_T32 l0 x4_1).f0, (rd_T32 l0 x4_1).f1⟩ : S32)); (case aB => exact (by repeat (first | (with_reducible first | exact HB.out | apply below_alloc | apply pw_below_drewN | apply below_drew1) | exact HB.out))); (case aF => exact (fun _ _ => trivial)); (case aO => exact (by (with_reducible repeat (first | apply Kd.R_alloc | apply Kd.R_drewN | apply Kd.R_drew)); exact HO_3.out)); (case aS => exact (below_size (by repeat (first | (with_reducible first | exact HB.out | apply below_alloc | apply pw_below_drewN | apply below_drew1) | exact HB.out)))); (case aL => have := LMc14.out; omega); intro v472 w15 ho hb hg hat; rw [← Ny471.out] at ho; have n0_ := Aside0.mk (hb); have n1_ := Aside0.mk (ho); clear HB; clear HO_3; have HB := n0_; have HO473 := n1_; clear n0_ n1_; clear ho hb hg hat)))
                 go_roundg kj5
                 case measure => have := HK1.out; have := HJ1.out; have := HJ5.out; omega
                 case rel => exact ⟨(y471), (wrap64 (x4_1 + 1)), (by first | rfl | (simp; done) | (simp [*]; done)), H', ⟨by have := HK1.out; have := HJ1.out; have := HJ5.out; omega⟩, ⟨by (with_reducible repeat (first | apply Kd.R_alloc | apply Kd.R_drewN | apply Kd.R_drew)); exact HO473.out⟩, ⟨by repeat (first | (with_reducible first | exact HB.out | apply below_alloc | apply pw_below_drewN | apply below_drew1) | exact HB.out)⟩⟩
               · rw [if_neg c14] at H
                 exact absurd H (by simp)
             · rw [if_neg c13] at H
               exact absurd H (by simp)
           · rw [if_neg c12] at H
             exact absurd H (by simp)
         · replace c11 := Bool.eq_false_iff.mpr c11
           subst c11
           have H1 : (kimberlitelaw01_sets.l0 kj5 l0 x3_1 (wrap64 (x4_1 + 1))) = some r := by rw [if_neg (show ¬ (false = true) by decide)] at H; exact H
           clear H
           have H := H1
           clear H1
           have H' := Aside0.mk H
           clear H
           go_wp2
           repeat (go_quiet (fail); try go_wp2)
           go_roundg kj5
           case measure => have := HK1.out; have := HJ1.out; have := HJ5.out; omega
           case rel => exact ⟨(x3_1), (wrap64 (x4_1 + 1)), (by first | rfl | (simp; done) | (simp [*]; done)), H', ⟨by have := HK1.out; have := HJ1.out; have := HJ5.out; omega⟩, ⟨by (with_reducible repeat (first | apply Kd.R_alloc | apply Kd.R_drewN | apply Kd.R_drew)); exact HO_3.out⟩, ⟨by repeat (first | (with_reducible first | exact HB.out | apply below_alloc | apply pw_below_drewN | apply below_drew1) | exact HB.out)⟩⟩
     · replace c5 := Bool.eq_false_iff.mpr c5
       subst c5
       have H1 : ((span_Of.f kj1 x3_1).bind fun bt474 => (some bt474.1)) = some r := by rw [if_neg (show ¬ (false = true) by decide)] at H; exact H
       clear H
       have H := H1
       clear H1
       replace H := Option.bind_eq_some_iff.mp H
       obtain ⟨⟨t474, t475⟩, A160, H⟩ := H
       replace H : (some t474) = some r := H
       have A16 := Aside0.mk A160
       clear A160
       obtain rfl := Option.some.inj H
       obtain ⟨Ao17, co17, eo17⟩ := Kd.R_slice HO_3.out
       subst eo17
       go_wp2_with (first | (go_at_call 19; (with_reducible refine (span_Of.calls kj1 _ _ x3_1 t474 t475 _ ?side1 ?side2 A16.out).mono ?_); (case side1 => repeat (first | exact (Kd.R_reads' HO_3.out).2.2 | (with_reducible refine Kd.C_alloc ?_ _) | (with_reducible refine Kd.C_drewN ?_ _) | (with_reducible refine Kd.C_drew ?_))); (case side2 => exact (Kd.R_reads' HO_3.out).2.1); rintro e w18 ⟨v476, rfl, ho0, hb⟩; have n0_ := Aside0.mk (Kd.R_elder' (by (with_reducible repeat (first | apply Kd.R_alloc | apply Kd.R_drewN | apply Kd.R_drew)); exact HO_3.out) (Kd.R_base ho0) hb); have n1_ := Aside0.mk (Kd.R_lower (Kd.R_new' ho0 (Kd.R_lt (by (with_reducible repeat (first | apply Kd.R_alloc | apply Kd.R_drewN | apply Kd.R_drew)); exact HO_3.out))) (below_size (by repeat (first | (with_reducible first | exact HB.out | apply below_alloc | apply pw_below_drewN | apply below_drew1) | exact HB.out)))); have n2_ := Aside0.mk (below_step (by repeat (first | (with_reducible first | exact HB.out | apply below_alloc | apply pw_below_drewN | apply below_drew1) | exact HB.out)) hb); clear HO_3; clear HB; have HO_3 := n0_; have HO477 := n1_; have HB := n2_; clear n0_ n1_ n2_; (try clear hb); (try clear hb2); (try clear hk); (try clear hi); (try clear ho0)))
       repeat (go_quiet (first | (go_at_call 19; (with_reducible refine (span_Of.calls kj1 _ _ x3_1 t474 t475 _ ?side1 ?side2 A16.out).mono ?_); (case side1 => repeat (first | exact (Kd.R_reads' HO_3.out).2.2 | (with_reducible refine Kd.C_alloc ?_ _) | (with_reducible refine Kd.C_drewN ?_ _) | (with_reducible refine Kd.C_drew ?_))); (case side2 => exact (Kd.R_reads' HO_3.out).2.1); rintro e w18 ⟨v476, rfl, ho0, hb⟩; have n0_ := Aside0.mk (Kd.R_elder' (by (with_reducible repeat (first | apply Kd.R_alloc | apply Kd.R_drewN | apply Kd.R_drew)); exact HO_3.out) (Kd.R_base ho0) hb); have n1_ := Aside0.mk (Kd.R_lower (Kd.R_new' ho0 (Kd.R_lt (by (with_reducible repeat (first | apply Kd.R_alloc | apply Kd.R_drewN | apply Kd.R_drew)); exact HO_3.out))) (below_size (by repeat (first | (with_reducible first | exact HB.out | apply below_alloc | apply pw_below_drewN | apply below_drew1) | exact HB.out)))); have n2_ := Aside0.mk (below_step (by repeat (first | (with_reducible first | exact HB.out | apply below_alloc | apply pw_below_drewN | apply below_drew1) | exact HB.out)) hb); clear HO_3; clear HB; have HO_3 := n0_; have HO477 := n1_; have HB := n2_; clear n0_ n1_ n2_; (try clear hb); (try clear hb2); (try clear hk); (try clear hi); (try clear ho0))); try go_wp2_with (first | (go_at_call 19; (with_reducible refine (span_Of.calls kj1 _ _ x3_1 t474 t475 _ ?side1 ?side2 A16.out).mono ?_); (case side1 => repeat (first | exact (Kd.R_reads' HO_3.out).2.2 | (with_reducible refine Kd.C_alloc ?_ _) | (with_reducible refine Kd.C_drewN ?_ _) | (with_reducible refine Kd.C_drew ?_))); (case side2 => exact (Kd.R_reads' HO_3.out).2.1); rintro e w18 ⟨v476, rfl, ho0, hb⟩; have n0_ := Aside0.mk (Kd.R_elder' (by (with_reducible repeat (first | apply Kd.R_alloc | apply Kd.R_drewN | apply Kd.R_drew)); exact HO_3.out) (Kd.R_base ho0) hb); have n1_ := Aside0.mk (Kd.R_lower (Kd.R_new' ho0 (Kd.R_lt (by (with_reducible repeat (first | apply Kd.R_alloc | apply Kd.R_drewN | apply Kd.R_drew)); exact HO_3.out))) (below_size (by repeat (first | (with_reducible first | exact HB.out | apply below_alloc | apply pw_below_drewN | apply below_drew1) | exact HB.out)))); have n2_ := Aside0.mk (below_step (by repeat (first | (with_reducible first | exact HB.out | apply below_alloc | apply pw_below_drewN | apply below_drew1) | exact HB.out)) hb); clear HO_3; clear HB; have HO_3 := n0_; have HO477 := n1_; have HB := n2_; clear n0_ n1_ n2_; (try clear hb); (try clear hb2); (try clear hk); (try clear hi); (try clear ho0))))
       go_ret
       exact ⟨_, by first | rfl | (simp [errW_none, errW_some] <;> rfl) | (simp [*, errW_none, errW_some] <;> rfl), by (with_reducible repeat (first | apply Kd.R_alloc | apply Kd.R_drewN | apply Kd.R_drew)); exact Kd.R_mono HO477.out (fun _ hk => trivial), by repeat (first | (with_reducible first | exact HB.out | apply below_alloc | apply pw_below_drewN | apply below_drew1) | exact HB.out)⟩
end Go.Proofs.Ytningpmoojnomaa.Pr
end
section
namespace Go.Proofs.Ytningpmoojnomaa.Pr
open Go.RowKit Go.Proofs.YtningpmoojnomaaW.PrintWords Go.Proofs.YtningpmoojnomaaW.PrintLast Go.Proofs.YtningpmoojnomaaW.PrintMore
set_option linter.unusedVariables false
set_option linter.unusedSimpArgs false
theorem nodup_len : ∀ (l m : List Int), l.Pairwise (· < ·) → (∀ x ∈ l, x ∈ m) → l.length ≤ m.length
  | [], _, _, _ => Nat.zero_le _
  | x :: t, m, h, hs => by
    rw [List.pairwise_cons] at h
    have hx := hs x List.mem_cons_self
    have h1 := nodup_len t (m.erase x) h.2 (fun y hy => (List.mem_erase_of_ne (by have := h.1 y hy; omega)).2 (hs y (List.mem_cons_of_mem _ hy)))
    rw [List.length_erase_of_mem hx] at h1
    have h2 : 0 < m.length := List.length_pos_of_mem hx
    rw [List.length_cons]
    omega
theorem flip_up {l : List S32} {x : Int} (h1 : memS l x = true) (h0 : memS l (x - 1) = false) : x ∈ l.map (fun s => s.f0) := by
  obtain ⟨s, hs, a1, a2⟩ := (memS_iff _ _).1 h1
  refine List.mem_map.2 ⟨s, hs, ?_⟩
  by_cases h : s.f0 ≤ x - 1
  · have h3 : memS l (x - 1) = true := (memS_iff _ _).2 ⟨s, hs, h, by omega⟩
    rw [h0] at h3
    cases h3
  · show s.f0 = x
    omega
theorem flip_down {l : List S32} {x : Int} (h1 : memS l x = false) (h0 : memS l (x - 1) = true) : x ∈ l.map (fun s => s.f1) := by
  obtain ⟨s, hs, a1, a2⟩ := (memS_iff _ _).1 h0
  refine List.mem_map.2 ⟨s, hs, ?_⟩
  by_cases h : x < s.f1
  · have h3 : memS l x = true := (memS_iff _ _).2 ⟨s, hs, by omega, h⟩
    rw [h1] at h3
    cases h3
  · show s.f1 = x
    omega
theorem asc_left : ∀ (l : List S32) (lo : Int), Asc lo l → (l.map (fun s => s.f0)).Pairwise (· < ·)
  | [], _, _ => List.Pairwise.nil
  | s :: t, lo, ⟨h1, h2, h3, h4⟩ => by
    rw [List.map_cons, List.pairwise_cons]
    refine ⟨fun y hy => ?_, asc_left t _ h4⟩
    obtain ⟨u, hu, rfl⟩ := List.mem_map.1 hy
    have := (asc_pair t _ h4).2 u hu
    omega
theorem asc_start {l : List S32} {lo : Int} (h : Asc lo l) (hlo : -1099511627776 ≤ lo) : ∀ s ∈ l, memS l s.f0 = true ∧ memS l (s.f0 - 1) = false := by
  intro s hs
  have g := goodL_asc l lo h hlo s hs
  refine ⟨(memS_iff _ _).2 ⟨s, hs, Int.le_refl _, g.2.1⟩, ?_⟩
  rw [← Bool.not_eq_true]
  intro hm
  obtain ⟨s', hs', a1, a2⟩ := (memS_iff _ _).1 hm
  have g' := goodL_asc l lo h hlo s' hs'
  rcases pair_or (asc_pair l lo h).1 s' hs' s hs with rfl | h | h <;> omega
/-- A set made of two lists has no more spans than the lists together. -/
theorem made_few (kind : Int) (hk : kind = 0 ∨ kind = 1 ∨ kind = 2) {a b : List S32} (ha : GoodL a) (hb : GoodL b) : (madeL kind a b).length ≤ a.length + b.length := by
  obtain ⟨h1, h2⟩ := made_spec kind a b (good_two ha hb)
  have h3 := nodup_len ((madeL kind a b).map (fun s => s.f0)) (a.map (fun s => s.f0) ++ b.map (fun s => if kind = 2 then s.f1 else s.f0)) (asc_left _ _ h1) (fun x hx => ?_)
  · simpa using h3
  · obtain ⟨s, hs, rfl⟩ := List.mem_map.1 hx
    obtain ⟨e1, e0⟩ := asc_start h1 (Int.le_refl _) s hs
    rw [h2] at e1 e0
    have ua := @flip_up a s.f0
    have ub := @flip_up b s.f0
    have db := @flip_down b s.f0
    rw [List.mem_append]
    generalize memS a s.f0 = p at *
    generalize memS a (s.f0 - 1) = p' at *
    generalize memS b s.f0 = q at *
    generalize memS b (s.f0 - 1) = q' at *
    rcases hk with rfl | rfl | rfl
    · cases p <;> cases p' <;> cases q <;> cases q' <;> simp [keepsB] at e1 e0 <;> simp_all
    · cases p <;> cases p' <;> cases q <;> cases q' <;> simp [keepsB] at e1 e0 <;> simp_all
    · cases p <;> cases p' <;> cases q <;> cases q' <;> simp [keepsB] at e1 e0 <;> simp_all
def pick60 : List S32 → List S32 → List S32
  | [], acc => acc
  | s :: t, acc => if acc.length < 60 then (if goodS s = true then pick60 t (acc ++ [s]) else pick60 t acc) else acc
theorem pick60_spec : ∀ (l acc : List S32), acc.length ≤ 60 → (∀ s ∈ acc, goodS s = true) → (pick60 l acc).length ≤ 60 ∧ ∀ s ∈ pick60 l acc, goodS s = true
  | [], acc, h, hg => ⟨h, hg⟩
  | s :: t, acc, h, hg => by
    unfold pick60
    by_cases h60 : acc.length < 60
    · rw [if_pos h60]
      by_cases hs : goodS s = true
      · rw [if_pos hs]
        refine pick60_spec t _ (by simp; omega) (fun u hu => ?_)
        rcases List.mem_append.1 hu with hu | hu
        · exact hg u hu
        · rw [List.mem_singleton.1 hu]; exact hs
      · rw [if_neg hs]
        exact pick60_spec t acc h hg
    · rw [if_neg h60]
      exact ⟨h, hg⟩
theorem sets_loop (l : List S32) (hn : l.length ≤ 9223372036854775807) : ∀ (d i : Nat) (acc : List S32), l.length - i = d → acc.length ≤ 60 → Ev (fun k => kimberlitelaw01_sets.l0 k l acc (i : Int)) (ofR (pick60 (l.drop i) acc)).1
  | 0, i, acc, hd, ha => by
    rw [List.drop_of_length_le (by omega)]
    refine Ev.step (f := fun k => kimberlitelaw01_sets.j1 k l acc (i : Int) false) (fun k => by simp only [kimberlitelaw01_sets.l0]; rw [if_neg (by omega)]) ?_
    refine Ev.step (f := fun k => (span_Of.f k acc).bind fun t => some t.1) (fun k => by simp only [kimberlitelaw01_sets.j1]; rw [if_neg (by decide)]) ?_
    exact Ev.bind (spanOf_ev acc) (Ev.now _)
  | d + 1, i, acc, hd, ha => by
    have hi : i < l.length := by omega
    rw [drop_cons l i hi]
    by_cases h60 : acc.length < 60
    · have hg := goodS_iff (l.getD i z32)
      refine Ev.step (f := fun k => kimberlitelaw01_sets.j1 k l acc (i : Int) true) (fun k => by simp only [kimberlitelaw01_sets.l0]; rw [if_pos (by omega), decide_eq_true (by omega)]) ?_
      refine Ev.step (f := fun k => kimberlitelaw01_sets.j2 k l acc (i : Int) (goodS (l.getD i z32))) (fun k => ?_) ?_
      · simp only [kimberlitelaw01_sets.j1]
        rw [if_pos (by trivial), if_pos (by omega), if_pos (by omega), rd_nat]
        by_cases c1 : (l.getD i z32).f0 ≥ -1099511627776
        · rw [if_pos c1]
          by_cases c2 : (l.getD i z32).f0 < (l.getD i z32).f1
          · rw [if_pos c2]
            congr 1
            rw [Bool.eq_iff_iff, hg, decide_eq_true_iff]
            omega
          · rw [if_neg c2]
            congr 1
            exact (Bool.eq_false_iff.2 (fun h => by have := hg.1 h; omega)).symm
        · rw [if_neg c1]
          congr 1
          exact (Bool.eq_false_iff.2 (fun h => by have := hg.1 h; omega)).symm
      · unfold pick60
        rw [if_pos h60]
        cases hgs : goodS (l.getD i z32) with
        | true =>
          rw [if_pos rfl]
          refine Ev.step (fun k => ?_) (sets_loop l hn d (i + 1) (acc ++ [l.getD i z32]) (by omega) (by simp; omega))
          simp only [kimberlitelaw01_sets.j2]
          rw [if_pos (by trivial), if_pos (by omega), if_pos (by omega), if_pos (by omega), rd_nat, wrap_succ hi hn]
        | false =>
          rw [if_neg (by decide)]
          refine Ev.step (fun k => ?_) (sets_loop l hn d (i + 1) acc (by omega) ha)
          simp only [kimberlitelaw01_sets.j2]
          rw [if_neg (by decide), wrap_succ hi hn]
    · unfold pick60
      rw [if_neg h60]
      refine Ev.step (f := fun k => kimberlitelaw01_sets.j1 k l acc (i : Int) false) (fun k => by simp only [kimberlitelaw01_sets.l0]; rw [if_pos (by omega), decide_eq_false (by omega)]) ?_
      refine Ev.step (f := fun k => (span_Of.f k acc).bind fun t => some t.1) (fun k => by simp only [kimberlitelaw01_sets.j1]; rw [if_neg (by decide)]) ?_
      exact Ev.bind (spanOf_ev acc) (Ev.now _)
def setsL (l : List S32) : List S32 := ofL (pick60 l [])
theorem sets_ev (l : List S32) (hn : l.length ≤ 9223372036854775807) : Ev (fun k => kimberlitelaw01_sets.f k l) (setsL l) ∧ validS (setsL l) = true ∧ (setsL l).length ≤ 60 := by
  obtain ⟨p1, p2⟩ := pick60_spec l [] (by simp) (fun s hs => by cases hs)
  have hl : listR (pick60 l []) = 0 := by
    unfold listR
    rw [if_neg (by omega), if_neg]
    intro h
    obtain ⟨s, hs, h⟩ := List.any_eq_true.1 h
    rw [p2 s hs] at h
    cases h
  have h := sets_loop l hn _ 0 [] rfl (by simp)
  rw [List.drop_zero, ofR, if_pos hl] at h
  have hg : GoodL (pick60 l []) := fun s hs => (goodS_iff s).1 (p2 s hs)
  have h4 := made_few 0 (.inl rfl) hg (show GoodL [] from fun s hs => by cases hs)
  refine ⟨h, ofL_valid hl, ?_⟩
  show (madeL 0 _ []).length ≤ 60
  simp at h4
  omega
end Go.Proofs.Ytningpmoojnomaa.Pr
end
section
namespace Go.Proofs.Ytningpmoojnomaa.Pr
open Go.RowKit Go.Proofs.YtningpmoojnomaaW.PrintWords Go.Proofs.YtningpmoojnomaaW.PrintLast Go.Proofs.YtningpmoojnomaaW.PrintMore
set_option linter.unusedVariables false
set_option linter.unusedSimpArgs false
theorem compactUpTo_spec (S : List Int) (h : S.Pairwise (· ≤ ·)) : ∀ m, m ≤ S.length → (Lib.compactUpTo S.toArray m).Pairwise (· < ·) ∧ (∀ z, z ∈ Lib.compactUpTo S.toArray m ↔ ∃ j, ∃ hj : j < m, ∃ hs : j < S.length, z = S[j]) ∧ (Lib.compactUpTo S.toArray m).length ≤ m
  | 0, _ => by simp [Lib.compactUpTo]
  | m + 1, hm => by
    obtain ⟨ih1, ih2, ih3⟩ := compactUpTo_spec S h m (by omega)
    have hmS : m < S.length := by omega
    have em : S.toArray[m]! = S[m] := by rw [getElem!_pos S.toArray m (by simpa using hmS)]; simp
    rw [Lib.compactUpTo_succ, em]
    by_cases hk : Lib.keeps S.toArray m = true
    · rw [if_pos hk]
      refine ⟨?_, fun z => ?_, by simp; omega⟩
      · rw [List.pairwise_append]
        refine ⟨ih1, by simp, fun x hx y hy => ?_⟩
        rw [List.mem_singleton] at hy
        subst hy
        obtain ⟨j, hj, hs, rfl⟩ := (ih2 x).1 hx
        have hle : S[j] ≤ S[m - 1] := by
          rcases Nat.lt_or_ge j (m - 1) with hlt | hge
          · exact (List.pairwise_iff_getElem.1 h) j (m - 1) hs (by omega) hlt
          · have : j = m - 1 := by omega
            subst this
            exact Int.le_refl _
        have hle2 : S[m - 1] ≤ S[m] := (List.pairwise_iff_getElem.1 h) (m - 1) m (by omega) hmS (by omega)
        have hne : S[m] ≠ S[m - 1] := by
          unfold Lib.keeps at hk
          rw [decide_eq_true_eq] at hk
          rcases hk with h0 | h0
          · omega
          · rw [em, getElem!_pos S.toArray (m - 1) (by simp; omega)] at h0
            simpa using h0
        omega
      · rw [List.mem_append, ih2 z, List.mem_singleton]
        constructor
        · rintro (⟨j, hj, hs, rfl⟩ | rfl)
          · exact ⟨j, by omega, hs, rfl⟩
          · exact ⟨m, by omega, hmS, rfl⟩
        · rintro ⟨j, hj, hs, rfl⟩
          rcases Nat.lt_or_ge j m with hlt | hge
          · exact .inl ⟨j, hlt, hs, rfl⟩
          · have : j = m := by omega
            subst this
            exact .inr rfl
    · rw [if_neg hk, List.append_nil]
      refine ⟨ih1, fun z => ?_, by omega⟩
      have hno : ¬ (m = 0 ∨ S.toArray[m]! ≠ S.toArray[m - 1]!) := fun hc => hk (by unfold Lib.keeps; exact decide_eq_true hc)
      have h0 : m ≠ 0 := fun hc => hno (.inl hc)
      have he : S[m] = S[m - 1] := by
        have := Decidable.not_not.1 (fun hc => hno (.inr hc))
        rw [em, getElem!_pos S.toArray (m - 1) (by simp; omega)] at this
        simpa using this
      rw [ih2 z]
      constructor
      · rintro ⟨j, hj, hs, rfl⟩
        exact ⟨j, by omega, hs, rfl⟩
      · rintro ⟨j, hj, hs, rfl⟩
        rcases Nat.lt_or_ge j m with hlt | hge
        · exact ⟨j, hlt, hs, rfl⟩
        · have : j = m := by omega
          subst this
          exact ⟨j - 1, by omega, by omega, he⟩
theorem compact_spec (S : List Int) (h : S.Pairwise (· ≤ ·)) : (Lib.compact S).Pairwise (· < ·) ∧ (∀ z, z ∈ Lib.compact S ↔ z ∈ S) ∧ (Lib.compact S).length ≤ S.length := by
  obtain ⟨h1, h2, h3⟩ := compactUpTo_spec S h S.length (Nat.le_refl _)
  refine ⟨h1, fun z => ?_, h3⟩
  show z ∈ Lib.compactUpTo S.toArray S.length ↔ _
  rw [h2 z, List.mem_iff_getElem]
  constructor
  · rintro ⟨j, hj, hs, rfl⟩
    exact ⟨j, hs, rfl⟩
  · rintro ⟨j, hs, rfl⟩
    exact ⟨j, hs, hs, rfl⟩
def flatS (l : List S32) : List Int := l.flatMap (fun s => [s.f0, s.f1])
def cutsAt (a b : List S32) : Nat → List Int
  | 0 => [-1099511627776, 1099511627776]
  | 1 => [-1099511627776, 1099511627776] ++ flatS a
  | _ => [-1099511627776, 1099511627776] ++ flatS a ++ flatS b
theorem flat_succ (l : List S32) (i : Nat) (h : i < l.length) : flatS (l.take (i + 1)) = flatS (l.take i) ++ [(l.getD i z32).f0, (l.getD i z32).f1] := by
  unfold flatS
  rw [List.take_succ_eq_append_getElem h, List.flatMap_append]
  simp [List.getD_eq_getElem?_getD, List.getElem?_eq_getElem h]
theorem flat_len : ∀ l : List S32, (flatS l).length = 2 * l.length
  | [] => rfl
  | s :: t => by
    have := flat_len t
    rw [show flatS (s :: t) = [s.f0, s.f1] ++ flatS t from rfl, List.length_append, this]
    simp
    omega
theorem mem_flat (l : List S32) (z : Int) : z ∈ flatS l ↔ ∃ s ∈ l, z = s.f0 ∨ z = s.f1 := by
  unfold flatS
  rw [List.mem_flatMap]
  simp
def cutsE (a b : List S32) : List Int := Lib.compact ((cutsAt a b 2).mergeSort fun x y => decide (x ≤ y))
theorem cutsE_spec (a b : List S32) : (cutsE a b).Pairwise (· < ·) ∧ (∀ z, z ∈ cutsE a b ↔ z = -1099511627776 ∨ z = 1099511627776 ∨ ∃ s, (s ∈ a ∨ s ∈ b) ∧ (z = s.f0 ∨ z = s.f1)) ∧ (cutsE a b).length ≤ 2 + 2 * a.length + 2 * b.length := by
  have hs : ((cutsAt a b 2).mergeSort fun x y => decide (x ≤ y)).Pairwise (· ≤ ·) := by
    have := List.pairwise_mergeSort (le := fun x y : Int => decide (x ≤ y)) (fun a b c h1 h2 => by simp at *; omega) (fun a b => by simp; omega) (cutsAt a b 2)
    exact this.imp (fun h => by simpa using h)
  obtain ⟨h1, h2, h3⟩ := compact_spec _ hs
  refine ⟨h1, fun z => ?_, ?_⟩
  · show z ∈ Lib.compact _ ↔ _
    rw [h2 z, List.mem_mergeSort]
    show z ∈ [-1099511627776, 1099511627776] ++ flatS a ++ flatS b ↔ _
    rw [List.mem_append, List.mem_append, mem_flat, mem_flat]
    simp only [List.mem_cons, List.not_mem_nil, or_false]
    constructor
    · rintro (((h | h) | ⟨s, hs, h⟩) | ⟨s, hs, h⟩)
      · exact .inl h
      · exact .inr (.inl h)
      · exact .inr (.inr ⟨s, .inl hs, h⟩)
      · exact .inr (.inr ⟨s, .inr hs, h⟩)
    · rintro (h | h | ⟨s, hs | hs, h⟩)
      · exact .inl (.inl (.inl h))
      · exact .inl (.inl (.inr h))
      · exact .inl (.inr ⟨s, hs, h⟩)
      · exact .inr ⟨s, hs, h⟩
  · rw [List.length_mergeSort] at h3
    refine Nat.le_trans h3 ?_
    show ([-1099511627776, 1099511627776] ++ flatS a ++ flatS b).length ≤ _
    rw [List.length_append, List.length_append, flat_len, flat_len]
    simp
abbrev PieceT := S32 × (Bool × Bool)
def pieceAt (a b : List S32) (E : List Int) (i : Nat) : PieceT := (⟨rd E (i : Int), rd E ((i + 1 : Nat) : Int)⟩, (memS a (rd E (i : Int)), memS b (rd E (i : Int))))
def upTo (a b : List S32) (E : List Int) (n : Nat) : List PieceT := (List.range n).map (pieceAt a b E)
def piecesL (a b : List S32) : List PieceT := upTo a b (cutsE a b) ((cutsE a b).length - 1)
theorem upTo_succ (a b : List S32) (E : List Int) (n : Nat) : upTo a b E (n + 1) = upTo a b E n ++ [pieceAt a b E n] := by
  unfold upTo
  rw [List.range_succ, List.map_append]
  rfl
theorem upTo_len (a b : List S32) (E : List Int) (n : Nat) : (upTo a b E n).length = n := by simp [upTo]
/-- The pieces of a list of cuts. -/
def pcs (a b : List S32) : List Int → List PieceT
  | e :: e' :: t => (⟨e, e'⟩, (memS a e, memS b e)) :: pcs a b (e' :: t)
  | _ => []
theorem upTo_from (a b : List S32) (E : List Int) : ∀ (d i : Nat), E.length - 1 - i = d → (List.range' i d).map (pieceAt a b E) = pcs a b (E.drop i)
  | 0, i, h => by
    rcases hd : E.drop i with _ | ⟨e, _ | ⟨e', t⟩⟩
    · rfl
    · rfl
    · have := congrArg List.length hd
      simp at this
      omega
  | d + 1, i, h => by
    rw [List.range'_succ, List.map_cons, upTo_from a b E d (i + 1) (by omega), drop2 E i (by omega), pcs, dropI E (i + 1) (by omega)]
    rfl
theorem piecesL_eq (a b : List S32) : piecesL a b = pcs a b (cutsE a b) := by
  have := upTo_from a b (cutsE a b) _ 0 rfl
  unfold piecesL upTo
  rw [List.range_eq_range']
  simpa using this
/-- What a rule chooses. -/
def chz (q : Bool → Bool → Bool) (l : List PieceT) : List S32 := (l.filter (fun p => q p.2.1 p.2.2)).map (fun p => p.1)
theorem chz_snoc (q : Bool → Bool → Bool) (l : List PieceT) (x : PieceT) : chz q (l ++ [x]) = if q x.2.1 x.2.2 = true then chz q l ++ [x.1] else chz q l := by
  unfold chz
  rw [List.filter_append, List.map_append]
  by_cases h : q x.2.1 x.2.2 = true
  · rw [if_pos h]; simp [h]
  · rw [if_neg h]; simp [h]
theorem chz_len (q : Bool → Bool → Bool) (l : List PieceT) : (chz q l).length ≤ l.length := by
  unfold chz
  rw [List.length_map]
  exact List.length_filter_le _ _
theorem chz_mem (q : Bool → Bool → Bool) (a b : List S32) : ∀ (E : List Int) (x : Int), memS (chz q (pcs a b E)) x = inP (fun e => q (memS a e) (memS b e)) E x
  | [], _ => rfl
  | [_], _ => rfl
  | e :: e' :: t, x => by
    have ih := chz_mem q a b (e' :: t) x
    rw [pcs, inP, ← ih]
    unfold chz
    rw [List.filter_cons]
    by_cases h : q (memS a e) (memS b e) = true
    · rw [if_pos h, List.map_cons, memS_cons, h, Bool.true_and]
      rfl
    · rw [if_neg h, Bool.eq_false_iff.2 h, Bool.false_and, Bool.false_or]
theorem chz_low (q : Bool → Bool → Bool) (a b : List S32) : ∀ (E : List Int) (lo hi : Int), E.Pairwise (· < ·) → (∀ e ∈ E, lo ≤ e ∧ e ≤ hi) → (chz q (pcs a b E)).Pairwise (fun x y => x.f0 ≤ y.f0) ∧ ∀ s ∈ chz q (pcs a b E), lo ≤ s.f0 ∧ s.f0 < s.f1 ∧ s.f1 ≤ hi
  | [], _, _, _, _ => by simp [pcs, chz]
  | [_], _, _, _, _ => by simp [pcs, chz]
  | e :: e' :: t, lo, hi, hp, hE => by
    rw [List.pairwise_cons] at hp
    have h0 := hE e (List.mem_cons_self)
    have h1 := hE e' (List.mem_cons_of_mem _ List.mem_cons_self)
    have hlt := hp.1 e' List.mem_cons_self
    obtain ⟨ip, im⟩ := chz_low q a b (e' :: t) e' hi hp.2 (fun z hz => ⟨by
      rcases List.mem_cons.1 hz with rfl | hz
      · exact Int.le_refl _
      · have := (List.pairwise_cons.1 hp.2).1 z hz
        exact Int.le_of_lt this, (hE z (List.mem_cons_of_mem _ hz)).2⟩)
    have hstep : chz q (pcs a b (e :: e' :: t)) = if q (memS a e) (memS b e) = true then ⟨e, e'⟩ :: chz q (pcs a b (e' :: t)) else chz q (pcs a b (e' :: t)) := by
      rw [pcs]
      unfold chz
      rw [List.filter_cons]
      by_cases h : q (memS a e) (memS b e) = true
      · rw [if_pos h, if_pos h]; rfl
      · rw [if_neg h, if_neg h]
    rw [hstep]
    by_cases h : q (memS a e) (memS b e) = true
    · rw [if_pos h]
      refine ⟨?_, fun s hs => ?_⟩
      · rw [List.pairwise_cons]
        exact ⟨fun s hs => by have := im s hs; simp only; omega, ip⟩
      · rcases List.mem_cons.1 hs with rfl | hs
        · exact ⟨h0.1, hlt, h1.2⟩
        · have := im s hs; omega
    · rw [if_neg h]
      exact ⟨ip, fun s hs => by have := im s hs; omega⟩
theorem inP_congr (p p' : Int → Bool) : ∀ (E : List Int) (hi : Int), E.Pairwise (· < ·) → (∀ e ∈ E, e ≤ hi) → (∀ e ∈ E, e < hi → p e = p' e) → ∀ x, inP p E x = inP p' E x
  | [], _, _, _, _, _ => rfl
  | [_], _, _, _, _, _ => rfl
  | e :: e' :: t, hi, hp, hE, h, x => by
    rw [List.pairwise_cons] at hp
    have hlt := hp.1 e' List.mem_cons_self
    have h1 := hE e' (List.mem_cons_of_mem _ List.mem_cons_self)
    rw [inP, inP, h e List.mem_cons_self (by omega), inP_congr p p' (e' :: t) hi hp.2 (fun z hz => hE z (List.mem_cons_of_mem _ hz)) (fun z hz hl => h z (List.mem_cons_of_mem _ hz) hl) x]
theorem valid_gd {l : List S32} (h : validS l = true) : ∀ s ∈ l, -1099511627776 ≤ s.f0 ∧ s.f0 < s.f1 ∧ s.f1 ≤ 1099511627776 := by
  have key : ∀ (l : List S32) (lo : Int), -1099511627776 ≤ lo → Asc lo l → ∀ s ∈ l, -1099511627776 ≤ s.f0 ∧ s.f0 < s.f1 ∧ s.f1 ≤ 1099511627776 := by
    intro l
    induction l with
    | nil => intro lo _ _ s hs; cases hs
    | cons y t ih =>
      rintro lo hlo ⟨h1, h2, h3, h4⟩ s hs
      rcases List.mem_cons.1 hs with rfl | hs
      · omega
      · exact ih _ (by omega) h4 s hs
  exact key l _ (Int.le_refl _) (asc_valid h).2
/-- In an ascending list the first span that ends behind a number tells whether the number is there. -/
theorem asc_first : ∀ (l : List S32) (lo x : Int) (i : Nat), Asc lo l → (∀ j, j < i → (l.getD j z32).f1 ≤ x) → (i < l.length → x < (l.getD i z32).f1) → memS l x = (decide (i < l.length) && decide ((l.getD i z32).f0 ≤ x))
  | [], lo, x, i, _, _, _ => by simp [memS]
  | s :: t, lo, x, 0, ⟨h1, h2, h3, h4⟩, _, hi => by
    have hx : x < s.f1 := by simpa using hi (by simp)
    have ht : memS t x = false := by
      rw [← Bool.not_eq_true]
      intro hc
      have := asc_low _ _ _ h4 hc
      omega
    rw [memS_cons, ht, Bool.or_false]
    unfold hasS
    simp [hx]
  | s :: t, lo, x, i + 1, ⟨h1, h2, h3, h4⟩, hb, hi => by
    have h0 : s.f1 ≤ x := by simpa using hb 0 (by omega)
    have := asc_first t _ x i h4 (fun j hj => by simpa using hb (j + 1) (by omega)) (fun hl => by simpa using hi (by simpa using hl))
    rw [memS_cons, this]
    have hs : hasS x s = false := by unfold hasS; simp; omega
    rw [hs, Bool.false_or]
    simp
/-- The plain answer of Union (0), Intersect (1) and Subtract (2), of both. -/
def twoR (kind : Int) (a b : List S32) : List S32 × Int := if validS a && validS b then (if (madeL kind a b).length > 128 then ([], 8) else (madeL kind a b, 0)) else ([], 2)
def wholeS : S32 := ⟨-1099511627776, 1099511627776⟩
theorem jn_chz (q : Bool → Bool → Bool) (a b : List S32) (ha : validS a = true) (hb : validS b = true) : Asc (-1099511627776) (jn (chz q (piecesL a b)) none) ∧ ∀ x, memS (jn (chz q (piecesL a b)) none) x = inP (fun e => q (memS a e) (memS b e)) (cutsE a b) x := by
  obtain ⟨e1, e2, e3⟩ := cutsE_spec a b
  have hE : ∀ e ∈ cutsE a b, -1099511627776 ≤ e ∧ e ≤ 1099511627776 := fun e he => by
    rcases (e2 e).1 he with rfl | rfl | ⟨s, hs, h⟩
    · omega
    · omega
    · have : -1099511627776 ≤ s.f0 ∧ s.f0 < s.f1 ∧ s.f1 ≤ 1099511627776 := hs.elim (valid_gd ha s) (valid_gd hb s)
      rcases h with rfl | rfl <;> omega
  obtain ⟨l1, l2⟩ := chz_low q a b (cutsE a b) _ _ e1 hE
  rw [piecesL_eq]
  obtain ⟨j1, j2⟩ := jn_spec _ none (-1099511627776) l1 l2 (fun c hc => by cases hc)
  refine ⟨j1, fun x => ?_⟩
  rw [j2 x, chz_mem]
  rfl
theorem chosen_made (kind : Int) (a b : List S32) (ha : validS a = true) (hb : validS b = true) : jn (chz (keepsB kind) (piecesL a b)) none = madeL kind a b := by
  obtain ⟨j1, j2⟩ := jn_chz (keepsB kind) a b ha hb
  obtain ⟨e1, e2, e3⟩ := cutsE_spec a b
  have hg : ∀ s, s ∈ a ∨ s ∈ b → -1099511627776 ≤ s.f0 ∧ s.f0 < s.f1 ∧ s.f1 ≤ 1099511627776 := fun s hs => hs.elim (valid_gd ha s) (valid_gd hb s)
  obtain ⟨m1, m2⟩ := made_spec kind a b hg
  refine canon _ _ _ _ j1 m1 (fun x => ?_)
  rw [j2 x, m2 x]
  exact inP_ends (keepsB kind) (keepsB_ff kind) a b (fun s hs => (hg s hs).2.1) _ e1 (fun s hs => ⟨(e2 _).2 (.inr (.inr ⟨s, hs, .inl rfl⟩)), (e2 _).2 (.inr (.inr ⟨s, hs, .inr rfl⟩))⟩) x
theorem chosen_not (a : List S32) (ha : validS a = true) : jn (chz (fun x _ => !x) (piecesL a [])) none = madeL 2 [wholeS] a := by
  obtain ⟨j1, j2⟩ := jn_chz (fun x _ => !x) a [] ha rfl
  obtain ⟨e1, e2, e3⟩ := cutsE_spec a []
  have hg : ∀ s, s ∈ [wholeS] ∨ s ∈ a → -1099511627776 ≤ s.f0 ∧ s.f0 < s.f1 ∧ s.f1 ≤ 1099511627776 := fun s hs => by
    rcases hs with hs | hs
    · rw [List.mem_singleton] at hs
      subst hs
      show (-1099511627776 : Int) ≤ -1099511627776 ∧ (-1099511627776 : Int) < 1099511627776 ∧ (1099511627776 : Int) ≤ 1099511627776
      omega
    · exact valid_gd ha s hs
  have hE : ∀ e ∈ cutsE a [], -1099511627776 ≤ e ∧ e ≤ 1099511627776 := fun e he => by
    rcases (e2 e).1 he with rfl | rfl | ⟨s, hs, h⟩
    · omega
    · omega
    · rcases hs with hs | hs
      · have := valid_gd ha s hs
        rcases h with rfl | rfl <;> omega
      · cases hs
  obtain ⟨m1, m2⟩ := made_spec 2 [wholeS] a hg
  refine canon _ _ _ _ j1 m1 (fun x => ?_)
  rw [j2 x, m2 x]
  rw [inP_congr _ (fun e => keepsB 2 (memS [wholeS] e) (memS a e)) (cutsE a []) 1099511627776 e1 (fun e he => (hE e he).2) (fun e he hl => by
    have h0 := (hE e he).1
    have : memS [wholeS] e = true := by rw [memS_iff]; exact ⟨wholeS, List.mem_singleton.2 rfl, h0, hl⟩
    rw [this]
    simp [keepsB]) x]
  refine inP_ends (keepsB 2) (keepsB_ff 2) [wholeS] a (fun s hs => (hg s hs).2.1) _ e1 (fun s hs => ?_) x
  rcases hs with hs | hs
  · rw [List.mem_singleton] at hs
    subst hs
    exact ⟨(e2 _).2 (.inl rfl), (e2 _).2 (.inr (.inl rfl))⟩
  · exact ⟨(e2 _).2 (.inr (.inr ⟨s, .inl hs, .inl rfl⟩)), (e2 _).2 (.inr (.inr ⟨s, .inl hs, .inr rfl⟩))⟩
theorem validS_whole : validS [wholeS] = true := by decide
def notR (a : List S32) : List S32 × Int := twoR 2 [wholeS] a
/-- What the program's rule comes to. -/
theorem prog_two (kind : Int) (a b : List S32) (h : (validS a && validS b) = true) : twoR kind a b = if (jn (chz (keepsB kind) (piecesL a b)) none).length > 128 then ([], 8) else (jn (chz (keepsB kind) (piecesL a b)) none, 0) := by
  unfold twoR
  rw [h]
  simp only [if_true]
  rw [Bool.and_eq_true] at h
  rw [chosen_made kind a b h.1 h.2]
theorem prog_not (a : List S32) (h : validS a = true) : notR a = if (jn (chz (fun x _ => !x) (piecesL a [])) none).length > 128 then ([], 8) else (jn (chz (fun x _ => !x) (piecesL a [])) none, 0) := by
  unfold notR twoR
  rw [validS_whole, h]
  simp only [Bool.and_self, if_true]
  rw [chosen_not a h]
end Go.Proofs.Ytningpmoojnomaa.Pr
end
section
namespace Go.Proofs.Ytningpmoojnomaa.Pr
open Go.RowKit Go.Proofs.YtningpmoojnomaaW.PrintWords Go.Proofs.YtningpmoojnomaaW.PrintLast Go.Proofs.YtningpmoojnomaaW.PrintMore
set_option linter.unusedVariables false
set_option linter.unusedSimpArgs false
theorem mem_range {l : List S32} (hg : GoodL l) {x : Int} (h : memS l x = true) : -1099511627776 ≤ x ∧ x < 1099511627776 := by
  obtain ⟨s, hs, a1, a2⟩ := (memS_iff _ _).1 h
  have := hg s hs
  omega
theorem grow_valid {a : List S32} (ha : validS a = true) {r : Int} (h0 : 0 ≤ r) : validS (growL r a) = true ∧ (growL r a).length ≤ a.length := by
  obtain ⟨hl, hg⟩ := valid_good ha
  have h1 := made_few 0 (.inl rfl) (gS_good hg h0) (show GoodL [] from fun s hs => by cases hs)
  have h2 : (growL r a).length ≤ a.length := by unfold growL; simpa using h1
  exact ⟨valid_of_asc (by omega) (growL_spec hg h0).1, h2⟩
theorem shrink_valid {a : List S32} (ha : validS a = true) {r : Int} (h0 : 0 ≤ r) : validS (shrinkL r a) = true ∧ (shrinkL r a).length ≤ a.length := by
  obtain ⟨hl, hg⟩ := valid_good ha
  have h2 : (shrinkL r a).length ≤ a.length := List.length_filterMap_le _ _
  exact ⟨valid_of_asc (by omega) (shrink_asc r h0 a _ (asc_valid ha).2 (Int.le_refl _)), h2⟩
theorem growL_mem {a : List S32} (hg : GoodL a) {r : Int} (h0 : 0 ≤ r) (x : Int) : memS (growL r a) x = true ↔ (-1099511627776 ≤ x ∧ x < 1099511627776 ∧ ∃ y, x - r ≤ y ∧ y ≤ x + r ∧ memS a y = true) := by
  rw [(growL_spec hg h0).2 x]
  exact grow_mem hg h0 x
theorem between (x z r q : Int) (h0 : 0 ≤ r) (h1 : 0 ≤ q) (hz1 : x - (r + q) ≤ z) (hz2 : z ≤ x + (r + q)) : ∃ y, x - q ≤ y ∧ y ≤ x + q ∧ y - r ≤ z ∧ z ≤ y + r ∧ min x z ≤ y ∧ y ≤ max x z := by
  by_cases h : z ≤ x
  · exact ⟨max z (x - q), by omega, by omega, by omega, by omega, by omega, by omega⟩
  · exact ⟨min z (x + q), by omega, by omega, by omega, by omega, by omega, by omega⟩
theorem twoR_eq (kind : Int) {a b : List S32} (ha : validS a = true) (hb : validS b = true) : twoR kind a b = if (madeL kind a b).length > 128 then ([], 8) else (madeL kind a b, 0) := by
  unfold twoR
  rw [ha, hb]
  rfl
theorem twoR_few (kind : Int) (hk : kind = 0 ∨ kind = 1 ∨ kind = 2) {a b : List S32} (ha : validS a = true) (hb : validS b = true) (hl : a.length + b.length ≤ 128) : twoR kind a b = (madeL kind a b, 0) ∧ validS (madeL kind a b) = true ∧ (madeL kind a b).length ≤ a.length + b.length := by
  have ga := (valid_good ha).2
  have gb := (valid_good hb).2
  have h1 := made_few kind hk ga gb
  rw [twoR_eq kind ha hb, if_neg (by omega)]
  exact ⟨rfl, valid_of_asc (by omega) (made_spec kind a b (good_two ga gb)).1, h1⟩
end Go.Proofs.Ytningpmoojnomaa.Pr
end
section
namespace Go.Proofs.Ytningpmoojnomaa.Pr
open Go.RowKit Go.Sort Go.Proofs.YtningpmoojnomaaW.PrintWords Go.Proofs.YtningpmoojnomaaW.PrintLast Go.Proofs.YtningpmoojnomaaW.PrintMore
set_option linter.unusedVariables false
set_option linter.unusedSimpArgs false
def RowI (w : World) (base : Nat) (v : Value) (l : List Int) : Prop := w.ownsRow base 3 1 v l.length (l.map (Value.int .i64))
theorem row_slice {w : World} {base : Nat} {v : Value} {l : List Int} (h : RowI w base v l) : ∃ A c, v = .slice A l.length c := by
  rcases h.2 with ⟨rfl, h0⟩ | ⟨g, cap, cur, rfl, _⟩
  · exact ⟨none, 0, by simp at h0; simp [h0]⟩
  · exact ⟨_, _, rfl⟩
theorem row_base {w : World} {base : Nat} {v : Value} {l : List Int} (h : RowI w base v l) : ∀ k, v.ownBlock = some k → base ≤ k := by
  rcases h.2 with ⟨rfl, h0⟩ | ⟨g, cap, cur, rfl, hb, _⟩
  · intro k hk; simp [Value.ownBlock] at hk
  · intro k hk; simp [Value.ownBlock] at hk; omega
theorem row_snoc2 {w : World} {base : Nat} {v : Value} {l : List Int} {x y : Int} (h : w.ownsRow base 3 1 v (l.length + 2) (l.map (Value.int .i64) ++ [.int .i64 x, .int .i64 y])) : RowI w base v (l ++ [x, y]) := by
  unfold RowI
  simpa using h
theorem row_some {w : World} {base : Nat} {v : Value} {l : List Int} (h : RowI w base v l) (hne : l ≠ []) : ∃ g c cur, v = .slice (some ⟨g, 0, none⟩) l.length c ∧ base ≤ g ∧ w.heap[g]? = some (.cells cur 3 (0, 0)) ∧ l.length ≤ c ∧ c ≤ maxLen ∧ cur.size = c ∧ cur.toList.take l.length = l.map (Value.int .i64) := by
  rcases h.2 with ⟨rfl, h0⟩ | ⟨g, cap, cur, rfl, h1, h2, h3, h4, h5, h6⟩
  · exact absurd (List.eq_nil_of_length_eq_zero h0) hne
  · exact ⟨g, cap, cur, rfl, h1, h2, h3, h4, by omega, by simpa using h6⟩
theorem cur_at {cur : Array Value} {l : List Int} (h : cur.toList.take l.length = l.map (Value.int .i64)) (j : Nat) (hj : j < l.length) : cur[j]? = some (.int .i64 l[j]) := by
  have := congrArg (fun z => z[j]?) h
  simp only [List.getElem?_take, if_pos hj, List.getElem?_map, List.getElem?_eq_getElem hj, Option.map_some] at this
  simpa using this
theorem row_holds {w : World} {g : Nat} {cur : Array Value} {l : List Int} (hb : w.heap[g]? = some (.cells cur 3 (0, 0))) (h : cur.toList.take l.length = l.map (Value.int .i64)) : Holds (Value.int .i64) w g 0 l.toArray := by
  intro j hj
  have hj' : j < l.length := by simpa using hj
  refine ⟨?_, blk_frozen hb _⟩
  rw [blk_cell hb, Nat.zero_add, cur_at h j hj', getElem!_pos l.toArray j hj]
  simp
theorem putRow_id (w : World) (g : Nat) (d : List Int) : putRow (Value.int .i64) w g 0 d.toArray = putRow id w g 0 (d.map (Value.int .i64)).toArray := by
  unfold putRow
  congr 1
  funext c
  unfold putCells
  congr 1
  funext k x
  simp only [Nat.zero_le, true_and, Nat.zero_add, Nat.sub_zero, List.size_toArray, List.length_map, id]
  by_cases hk : k < d.length
  · rw [if_pos hk, if_pos hk, getElem!_pos d.toArray k (by simpa using hk), getElem!_pos (d.map (Value.int .i64)).toArray k (by simpa using hk)]
    simp
  · rw [if_neg hk, if_neg hk]
/-- Laid anew it is owned again; its first m numbers are owned by the slice cut to m. -/
theorem row_put {w : World} {base g c : Nat} {cur : Array Value} {d : List Int} {n : Nat} (m : Nat) (os : Array Obj) (h1 : base ≤ g) (h2 : w.heap[g]? = some (.cells cur 3 (0, 0))) (h3 : n ≤ c) (h4 : c ≤ maxLen) (h5 : cur.size = c) (hd : d.length = n) (q : Nat) (hq : q ≤ n) :
    RowI (grow (putRow (Value.int .i64) (Sort.ahead w m) g 0 d.toArray) os) base (.slice (some ⟨g, 0, none⟩) q c) (d.take q) ∧ w.grownBy (grow (putRow (Value.int .i64) (Sort.ahead w m) g 0 d.toArray) os) (some g) := by
  rw [putRow_id]
  refine ⟨?_, grownBy_put _⟩
  have := own_put (w := w) (base := base) (g := g) (cap := c) (n := n) (k := 1) (m := m) (e := 3) (os := os) (cur := cur) (ts := d.map (Value.int .i64)) h1 h2 h3 h4 (by omega) (by simp [hd])
  rcases this with ⟨_, ⟨e, _⟩ | ⟨g', cap', cur', e, a1, a2, a3, a4, a5, a6⟩⟩
  · cases e
  · injection e with e1 _ e3
    injection e1 with e1
    injection e1 with e1
    subst e1 e3
    have hlen : (d.take q).length = q := by rw [List.length_take]; omega
    refine ⟨by simp, .inr ⟨g, c, cur', by rw [hlen], a1, a2, by omega, a4, a5, ?_⟩⟩
    rw [hlen, Nat.mul_one, List.map_take, ← a6, List.take_take]
    congr 1
    omega
end Go.Proofs.Ytningpmoojnomaa.Pr
end
section
namespace Go.Proofs.Ytningpmoojnomaa.Pr
open Go.RowKit Go.Shelf Go.Proofs.YtningpmoojnomaaW.PrintWords Go.Proofs.YtningpmoojnomaaW.PrintLast Go.Proofs.YtningpmoojnomaaW.PrintMore
set_option linter.unusedVariables false
set_option linter.unusedSimpArgs false
def ops21 : Array Oper := #[{ dst := some 81, op := Op.move (Operand.tmp 9), type := 3, pos := "set.go:83", after := #[], guard := none },
        { dst := some 82, op := Op.load 22 (Operand.tmp 1), type := 22, pos := "set.go:83", after := #[],
          guard := none },
        { dst := some 83,
          op := Op.call { callee := Callee.builtin Builtin.len, args := #[Operand.tmp 82], argTypes := #[22] },
          type := 3, pos := "set.go:83", after := #[{ on := 1, ground := Ground.data }], guard := none },
        { dst := some 84, op := Op.binOp BinOp.lss 3 (Operand.tmp 81) (Operand.tmp 83) 3, type := 4, pos := "set.go:83",
          after := #[{ on := 0, ground := Ground.data }, { on := 2, ground := Ground.data }], guard := none },
        { dst := some 85, op := Op.move (Operand.tmp 84), type := 4, pos := "set.go:83",
          after := #[{ on := 3, ground := Ground.data }], guard := none },
        { dst := some 86, op := Op.load 22 (Operand.tmp 1), type := 22, pos := "set.go:83",
          after := #[{ on := 4, ground := Ground.guard }], guard := some (4, true) },
        { dst := some 87, op := Op.move (Operand.tmp 9), type := 3, pos := "set.go:83",
          after := #[{ on := 4, ground := Ground.guard }], guard := some (4, true) },
        { dst := some 88, op := Op.indexAddr 22 (Operand.tmp 86) (Operand.tmp 87), type := 0, pos := "set.go:83",
          after :=
            #[{ on := 5, ground := Ground.data }, { on := 6, ground := Ground.data },
              { on := 4, ground := Ground.guard }],
          guard := some (4, true) },
        { dst := some 89, op := Op.fieldAddr 32 (Operand.tmp 88) 0, type := 0, pos := "set.go:83",
          after := #[{ on := 7, ground := Ground.data }, { on := 4, ground := Ground.guard }],
          guard := some (4, true) },
        { dst := some 90, op := Op.load 3 (Operand.tmp 89), type := 3, pos := "set.go:83",
          after := #[{ on := 8, ground := Ground.data }, { on := 4, ground := Ground.guard }],
          guard := some (4, true) },
        { dst := some 91, op := Op.move (Operand.tmp 12), type := 3, pos := "set.go:83",
          after := #[{ on := 4, ground := Ground.guard }], guard := some (4, true) },
        { dst := some 92, op := Op.binOp BinOp.leq 3 (Operand.tmp 90) (Operand.tmp 91) 3, type := 4, pos := "set.go:83",
          after :=
            #[{ on := 9, ground := Ground.data }, { on := 10, ground := Ground.data },
              { on := 4, ground := Ground.guard }],
          guard := some (4, true) },
        { dst := some 93, op := Op.pick (Operand.tmp 85) (Operand.tmp 92) (Operand.const (Value.bool false)), type := 4,
          pos := "set.go:83", after := #[{ on := 4, ground := Ground.data }, { on := 11, ground := Ground.data }],
          guard := none },
        { dst := some 94, op := Op.move (Operand.tmp 10), type := 3, pos := "set.go:83", after := #[], guard := none },
        { dst := some 95, op := Op.load 22 (Operand.tmp 2), type := 22, pos := "set.go:83", after := #[],
          guard := none },
        { dst := some 96,
          op := Op.call { callee := Callee.builtin Builtin.len, args := #[Operand.tmp 95], argTypes := #[22] },
          type := 3, pos := "set.go:83", after := #[{ on := 14, ground := Ground.data }], guard := none },
        { dst := some 97, op := Op.binOp BinOp.lss 3 (Operand.tmp 94) (Operand.tmp 96) 3, type := 4, pos := "set.go:83",
          after := #[{ on := 13, ground := Ground.data }, { on := 15, ground := Ground.data }], guard := none },
        { dst := some 98, op := Op.move (Operand.tmp 97), type := 4, pos := "set.go:83",
          after := #[{ on := 16, ground := Ground.data }, { on := 4, ground := Ground.chain }], guard := none },
        { dst := some 99, op := Op.load 22 (Operand.tmp 2), type := 22, pos := "set.go:83",
          after := #[{ on := 17, ground := Ground.guard }], guard := some (17, true) },
        { dst := some 100, op := Op.move (Operand.tmp 10), type := 3, pos := "set.go:83",
          after := #[{ on := 17, ground := Ground.guard }], guard := some (17, true) },
        { dst := some 101, op := Op.indexAddr 22 (Operand.tmp 99) (Operand.tmp 100), type := 0, pos := "set.go:83",
          after :=
            #[{ on := 18, ground := Ground.data }, { on := 19, ground := Ground.data },
              { on := 17, ground := Ground.guard }],
          guard := some (17, true) },
        { dst := some 102, op := Op.fieldAddr 32 (Operand.tmp 101) 0, type := 0, pos := "set.go:83",
          after := #[{ on := 20, ground := Ground.data }, { on := 17, ground := Ground.guard }],
          guard := some (17, true) },
        { dst := some 103, op := Op.load 3 (Operand.tmp 102), type := 3, pos := "set.go:83",
          after := #[{ on := 21, ground := Ground.data }, { on := 17, ground := Ground.guard }],
          guard := some (17, true) },
        { dst := some 104, op := Op.move (Operand.tmp 12), type := 3, pos := "set.go:83",
          after := #[{ on := 17, ground := Ground.guard }], guard := some (17, true) },
        { dst := some 105, op := Op.binOp BinOp.leq 3 (Operand.tmp 103) (Operand.tmp 104) 3, type := 4,
          pos := "set.go:83",
          after :=
            #[{ on := 22, ground := Ground.data }, { on := 23, ground := Ground.data },
              { on := 17, ground := Ground.guard }],
          guard := some (17, true) },
        { dst := some 106, op := Op.pick (Operand.tmp 98) (Operand.tmp 105) (Operand.const (Value.bool false)),
          type := 4, pos := "set.go:83",
          after := #[{ on := 17, ground := Ground.data }, { on := 24, ground := Ground.data }], guard := none },
        { dst := some 107, op := Op.build 91 #[(0, Operand.tmp 93), (1, Operand.tmp 106)], type := 91,
          pos := "set.go:83", after := #[{ on := 12, ground := Ground.data }, { on := 25, ground := Ground.data }],
          guard := none },
        { dst := some 13, op := Op.alloc 91, type := 0, pos := "set.go:83", after := #[], guard := none },
        { dst := none, op := Op.store 91 (Operand.tmp 13) (Operand.tmp 107), type := 0, pos := "set.go:83",
          after :=
            #[{ on := 27, ground := Ground.data }, { on := 26, ground := Ground.data },
              { on := 17, ground := Ground.chain }, { on := 0, ground := Ground.phase },
              { on := 1, ground := Ground.phase }, { on := 2, ground := Ground.phase },
              { on := 3, ground := Ground.phase }, { on := 4, ground := Ground.phase },
              { on := 5, ground := Ground.phase }, { on := 6, ground := Ground.phase },
              { on := 7, ground := Ground.phase }, { on := 8, ground := Ground.phase },
              { on := 9, ground := Ground.phase }, { on := 10, ground := Ground.phase },
              { on := 11, ground := Ground.phase }, { on := 12, ground := Ground.phase },
              { on := 13, ground := Ground.phase }, { on := 14, ground := Ground.phase },
              { on := 15, ground := Ground.phase }, { on := 16, ground := Ground.phase },
              { on := 17, ground := Ground.phase }, { on := 18, ground := Ground.phase },
              { on := 19, ground := Ground.phase }, { on := 20, ground := Ground.phase },
              { on := 21, ground := Ground.phase }, { on := 22, ground := Ground.phase },
              { on := 23, ground := Ground.phase }, { on := 24, ground := Ground.phase },
              { on := 25, ground := Ground.phase }, { on := 26, ground := Ground.phase },
              { on := 27, ground := Ground.phase }],
          guard := none }]
set_option maxRecDepth 100000 in
set_option maxHeartbeats 20000000 in
theorem reg21_tt {Q : Exit → Act → World → Prop} {B0 B1 i k na nb c0 c1 : Nat} {ad : Addr} {y0 : Int} {ad2 : Addr} {z0 : Int} {at_ : Int} {x0 x3 x4 x5 x6 x7 x8 x11 x13 x14 x15 x16 x17 x18 x19 x20 x21 x22 x23 x24 x25 x26 x27 x28 x29 x30 x31 x32 x33 x34 x35 x36 x37 x38 x39 x40 x41 x42 x43 x44 x45 x46 x47 x48 x49 x50 x51 x52 x53 x54 x55 x56 x57 x58 x59 x60 x61 x62 x63 x64 x65 x66 x67 x68 x69 x70 x71 x72 x73 x74 x75 x76 x77 x78 x79 x80 x81 x82 x83 x84 x85 x86 x87 x88 x89 x90 x91 x92 x93 x94 x95 x96 x97 x98 x99 x100 x101 x102 x103 x104 x105 x106 x107 x108 x109 x110 x111 x112 x113 x114 x115 x116 x117 x118 : Value} {wr : World}
    (hbx0 : wr.cell? ⟨B0, 0, none⟩ = some (.slice (some ad) na c0)) (hbx1 : wr.cell? ⟨B1, 0, none⟩ = some (.slice (some ad2) nb c1)) (HK0 : Aside0 (∀ o, (wr.alloc o).cell? ⟨B0, 0, none⟩ = some (.slice (some ad) na c0))) (HK1 : Aside0 (∀ o, (wr.alloc o).cell? ⟨B1, 0, none⟩ = some (.slice (some ad2) nb c1)))
    (hx0 : wr.cell? (ad.add (i * 2)) = some (.int .i64 y0)) (HKa : Aside0 (∀ o, (wr.alloc o).cell? (ad.add (i * 2)) = some (.int .i64 y0)))
    (hx2 : wr.cell? (ad2.add (k * 2)) = some (.int .i64 z0)) (HKb : Aside0 (∀ o, (wr.alloc o).cell? (ad2.add (k * 2)) = some (.int .i64 z0)))
    (hilz : (i : Int) < (na : Int)) (hklz : (k : Int) < (nb : Int))
    (hP : ∀ c (a : Act) tm w, Q (.panic c) { a with tmps := tm } w → Q (.panic c) a w) (hK : ∀ u81 u82 u83 u84 u85 u86 u87 u88 u89 u90 u91 u92 u93 u94 u95 u96 u97 u98 u99 u100 u101 u102 u103 u104 u105 u106 u107 : Value, Q .normal { tmps := #[x0, .pointer (some ⟨B0, 0, none⟩), .pointer (some ⟨B1, 0, none⟩), x3, x4, x5, x6, x7, x8, .int .i64 (i : Int), .int .i64 (k : Int), x11, .int .i64 at_, .pointer (some ⟨wr.heap.size, 0, none⟩), x14, x15, x16, x17, x18, x19, x20, x21, x22, x23, x24, x25, x26, x27, x28, x29, x30, x31, x32, x33, x34, x35, x36, x37, x38, x39, x40, x41, x42, x43, x44, x45, x46, x47, x48, x49, x50, x51, x52, x53, x54, x55, x56, x57, x58, x59, x60, x61, x62, x63, x64, x65, x66, x67, x68, x69, x70, x71, x72, x73, x74, x75, x76, x77, x78, x79, x80, u81, u82, u83, u84, u85, u86, u87, u88, u89, u90, u91, u92, u93, u94, u95, u96, u97, u98, u99, u100, u101, u102, u103, u104, u105, u106, u107, x108, x109, x110, x111, x112, x113, x114, x115, x116, x117, x118], defers := [] } ((wr.alloc (.cells #[.bool (decide (y0 ≤ at_)), .bool (decide (z0 ≤ at_))] 91)).drew)) :
    Code.wp Try.prog (Code.region 21 ops21 true) Q { tmps := #[x0, .pointer (some ⟨B0, 0, none⟩), .pointer (some ⟨B1, 0, none⟩), x3, x4, x5, x6, x7, x8, .int .i64 (i : Int), .int .i64 (k : Int), x11, .int .i64 at_, x13, x14, x15, x16, x17, x18, x19, x20, x21, x22, x23, x24, x25, x26, x27, x28, x29, x30, x31, x32, x33, x34, x35, x36, x37, x38, x39, x40, x41, x42, x43, x44, x45, x46, x47, x48, x49, x50, x51, x52, x53, x54, x55, x56, x57, x58, x59, x60, x61, x62, x63, x64, x65, x66, x67, x68, x69, x70, x71, x72, x73, x74, x75, x76, x77, x78, x79, x80, x81, x82, x83, x84, x85, x86, x87, x88, x89, x90, x91, x92, x93, x94, x95, x96, x97, x98, x99, x100, x101, x102, x103, x104, x105, x106, x107, x108, x109, x110, x111, x112, x113, x114, x115, x116, x117, x118], defers := [] } wr := by
  have hu91 := Try.underlying91
  have hi1 : i < na := Int.ofNat_lt.1 hilz
  have hk1 : k < nb := Int.ofNat_lt.1 hklz
  unfold ops21
  refine wp_region_held_drew (S := fun w' => w'.cell? ⟨B0, 0, none⟩ = some (.slice (some ad) na c0) ∧ w'.cell? ⟨B1, 0, none⟩ = some (.slice (some ad2) nb c1) ∧ w'.cell? (ad.add (i * 2)) = some (.int .i64 y0) ∧ w'.cell? (ad2.add (k * 2)) = some (.int .i64 z0)) (by kernel_rfl) ⟨hbx0, hbx1, hx0, hx2⟩ (fun hS => ?_)
  refine wpAnyH_take (i := 0) (v := ?_) rfl (by kernel_rfl) (by kernel_rfl) (by kernel_rfl) (fun _ _ _ h => hP _ _ _ _ h) (Or.inl ⟨by kernel_rfl, ?_⟩) hS ?_
  rotate_left
  · intro w hSw; (try dsimp only at hSw); go_simp; try with_reducible rfl
  try simp only [Act.put, List.setIfInBounds_toArray, List.set_cons_zero, List.set_cons_succ]
  refine wpAnyH_take (i := 1) (v := ?_) rfl (by kernel_rfl) (by kernel_rfl) (by kernel_rfl) (fun _ _ _ h => hP _ _ _ _ h) (Or.inl ⟨by kernel_rfl, ?_⟩) hS ?_
  rotate_left
  · intro w hSw; (try dsimp only at hSw); go_simp; try with_reducible rfl
  try simp only [Act.put, List.setIfInBounds_toArray, List.set_cons_zero, List.set_cons_succ]
  refine wpAnyH_take (i := 2) (v := ?_) rfl (by kernel_rfl) (by kernel_rfl) (by kernel_rfl) (fun _ _ _ h => hP _ _ _ _ h) (Or.inl ⟨by kernel_rfl, ?_⟩) hS ?_
  rotate_left
  · intro w hSw; (try dsimp only at hSw); go_simp; try with_reducible rfl
  try simp only [Act.put, List.setIfInBounds_toArray, List.set_cons_zero, List.set_cons_succ]
  refine wpAnyH_take (i := 3) (v := ?_) rfl (by kernel_rfl) (by kernel_rfl) (by kernel_rfl) (fun _ _ _ h => hP _ _ _ _ h) (Or.inl ⟨by kernel_rfl, ?_⟩) hS ?_
  rotate_left
  · intro w hSw; (try dsimp only at hSw); go_simp; try with_reducible rfl
  try simp only [Act.put, List.setIfInBounds_toArray, List.set_cons_zero, List.set_cons_succ]
  refine wpAnyH_take (i := 4) (v := ?_) rfl (by kernel_rfl) (by kernel_rfl) (by kernel_rfl) (fun _ _ _ h => hP _ _ _ _ h) (Or.inl ⟨by kernel_rfl, ?_⟩) hS ?_
  rotate_left
  · intro w hSw; (try dsimp only at hSw); go_simp; try with_reducible rfl
  try simp only [Act.put, List.setIfInBounds_toArray, List.set_cons_zero, List.set_cons_succ]
  refine wpAnyH_take (i := 5) (v := ?_) rfl (by kernel_rfl) (by kernel_rfl) (by kernel_rfl) (fun _ _ _ h => hP _ _ _ _ h) (Or.inl ⟨by kernel_rfl, ?_⟩) hS ?_
  rotate_left
  · intro w hSw; (try dsimp only at hSw); go_simp; try with_reducible rfl
  try simp only [Act.put, List.setIfInBounds_toArray, List.set_cons_zero, List.set_cons_succ]
  refine wpAnyH_take (i := 6) (v := ?_) rfl (by kernel_rfl) (by kernel_rfl) (by kernel_rfl) (fun _ _ _ h => hP _ _ _ _ h) (Or.inl ⟨by kernel_rfl, ?_⟩) hS ?_
  rotate_left
  · intro w hSw; (try dsimp only at hSw); go_simp; try with_reducible rfl
  try simp only [Act.put, List.setIfInBounds_toArray, List.set_cons_zero, List.set_cons_succ]
  refine wpAnyH_take (i := 7) (v := ?_) rfl (by kernel_rfl) (by kernel_rfl) (by kernel_rfl) (fun _ _ _ h => hP _ _ _ _ h) (Or.inl ⟨by kernel_rfl, ?_⟩) hS ?_
  rotate_left
  · intro w hSw; (try dsimp only at hSw); go_simp; try with_reducible rfl
  try simp only [Act.put, List.setIfInBounds_toArray, List.set_cons_zero, List.set_cons_succ]
  refine wpAnyH_take (i := 8) (v := ?_) rfl (by kernel_rfl) (by kernel_rfl) (by kernel_rfl) (fun _ _ _ h => hP _ _ _ _ h) (Or.inl ⟨by kernel_rfl, ?_⟩) hS ?_
  rotate_left
  · intro w hSw; (try dsimp only at hSw); go_simp; try with_reducible rfl
  try simp only [Act.put, List.setIfInBounds_toArray, List.set_cons_zero, List.set_cons_succ]
  refine wpAnyH_take (i := 9) (v := ?_) rfl (by kernel_rfl) (by kernel_rfl) (by kernel_rfl) (fun _ _ _ h => hP _ _ _ _ h) (Or.inl ⟨by kernel_rfl, ?_⟩) hS ?_
  rotate_left
  · intro w hSw; (try dsimp only at hSw); go_simp; try with_reducible rfl
  try simp only [Act.put, List.setIfInBounds_toArray, List.set_cons_zero, List.set_cons_succ]
  refine wpAnyH_take (i := 10) (v := ?_) rfl (by kernel_rfl) (by kernel_rfl) (by kernel_rfl) (fun _ _ _ h => hP _ _ _ _ h) (Or.inl ⟨by kernel_rfl, ?_⟩) hS ?_
  rotate_left
  · intro w hSw; (try dsimp only at hSw); go_simp; try with_reducible rfl
  try simp only [Act.put, List.setIfInBounds_toArray, List.set_cons_zero, List.set_cons_succ]
  refine wpAnyH_take (i := 11) (v := ?_) rfl (by kernel_rfl) (by kernel_rfl) (by kernel_rfl) (fun _ _ _ h => hP _ _ _ _ h) (Or.inl ⟨by kernel_rfl, ?_⟩) hS ?_
  rotate_left
  · intro w hSw; (try dsimp only at hSw); go_simp; try with_reducible rfl
  try simp only [Act.put, List.setIfInBounds_toArray, List.set_cons_zero, List.set_cons_succ]
  refine wpAnyH_take (i := 12) (v := ?_) rfl (by kernel_rfl) (by kernel_rfl) (by kernel_rfl) (fun _ _ _ h => hP _ _ _ _ h) (Or.inl ⟨by kernel_rfl, ?_⟩) hS ?_
  rotate_left
  · intro w hSw; (try dsimp only at hSw); go_simp; try with_reducible rfl
  try simp only [Act.put, List.setIfInBounds_toArray, List.set_cons_zero, List.set_cons_succ]
  refine wpAnyH_take (i := 13) (v := ?_) rfl (by kernel_rfl) (by kernel_rfl) (by kernel_rfl) (fun _ _ _ h => hP _ _ _ _ h) (Or.inl ⟨by kernel_rfl, ?_⟩) hS ?_
  rotate_left
  · intro w hSw; (try dsimp only at hSw); go_simp; try with_reducible rfl
  try simp only [Act.put, List.setIfInBounds_toArray, List.set_cons_zero, List.set_cons_succ]
  refine wpAnyH_take (i := 14) (v := ?_) rfl (by kernel_rfl) (by kernel_rfl) (by kernel_rfl) (fun _ _ _ h => hP _ _ _ _ h) (Or.inl ⟨by kernel_rfl, ?_⟩) hS ?_
  rotate_left
  · intro w hSw; (try dsimp only at hSw); go_simp; try with_reducible rfl
  try simp only [Act.put, List.setIfInBounds_toArray, List.set_cons_zero, List.set_cons_succ]
  refine wpAnyH_take (i := 15) (v := ?_) rfl (by kernel_rfl) (by kernel_rfl) (by kernel_rfl) (fun _ _ _ h => hP _ _ _ _ h) (Or.inl ⟨by kernel_rfl, ?_⟩) hS ?_
  rotate_left
  · intro w hSw; (try dsimp only at hSw); go_simp; try with_reducible rfl
  try simp only [Act.put, List.setIfInBounds_toArray, List.set_cons_zero, List.set_cons_succ]
  refine wpAnyH_take (i := 16) (v := ?_) rfl (by kernel_rfl) (by kernel_rfl) (by kernel_rfl) (fun _ _ _ h => hP _ _ _ _ h) (Or.inl ⟨by kernel_rfl, ?_⟩) hS ?_
  rotate_left
  · intro w hSw; (try dsimp only at hSw); go_simp; try with_reducible rfl
  try simp only [Act.put, List.setIfInBounds_toArray, List.set_cons_zero, List.set_cons_succ]
  refine wpAnyH_take (i := 17) (v := ?_) rfl (by kernel_rfl) (by kernel_rfl) (by kernel_rfl) (fun _ _ _ h => hP _ _ _ _ h) (Or.inl ⟨by kernel_rfl, ?_⟩) hS ?_
  rotate_left
  · intro w hSw; (try dsimp only at hSw); go_simp; try with_reducible rfl
  try simp only [Act.put, List.setIfInBounds_toArray, List.set_cons_zero, List.set_cons_succ]
  refine wpAnyH_take (i := 18) (v := ?_) rfl (by kernel_rfl) (by kernel_rfl) (by kernel_rfl) (fun _ _ _ h => hP _ _ _ _ h) (Or.inl ⟨by kernel_rfl, ?_⟩) hS ?_
  rotate_left
  · intro w hSw; (try dsimp only at hSw); go_simp; try with_reducible rfl
  try simp only [Act.put, List.setIfInBounds_toArray, List.set_cons_zero, List.set_cons_succ]
  refine wpAnyH_take (i := 19) (v := ?_) rfl (by kernel_rfl) (by kernel_rfl) (by kernel_rfl) (fun _ _ _ h => hP _ _ _ _ h) (Or.inl ⟨by kernel_rfl, ?_⟩) hS ?_
  rotate_left
  · intro w hSw; (try dsimp only at hSw); go_simp; try with_reducible rfl
  try simp only [Act.put, List.setIfInBounds_toArray, List.set_cons_zero, List.set_cons_succ]
  refine wpAnyH_take (i := 20) (v := ?_) rfl (by kernel_rfl) (by kernel_rfl) (by kernel_rfl) (fun _ _ _ h => hP _ _ _ _ h) (Or.inl ⟨by kernel_rfl, ?_⟩) hS ?_
  rotate_left
  · intro w hSw; (try dsimp only at hSw); go_simp; try with_reducible rfl
  try simp only [Act.put, List.setIfInBounds_toArray, List.set_cons_zero, List.set_cons_succ]
  refine wpAnyH_take (i := 21) (v := ?_) rfl (by kernel_rfl) (by kernel_rfl) (by kernel_rfl) (fun _ _ _ h => hP _ _ _ _ h) (Or.inl ⟨by kernel_rfl, ?_⟩) hS ?_
  rotate_left
  · intro w hSw; (try dsimp only at hSw); go_simp; try with_reducible rfl
  try simp only [Act.put, List.setIfInBounds_toArray, List.set_cons_zero, List.set_cons_succ]
  refine wpAnyH_take (i := 22) (v := ?_) rfl (by kernel_rfl) (by kernel_rfl) (by kernel_rfl) (fun _ _ _ h => hP _ _ _ _ h) (Or.inl ⟨by kernel_rfl, ?_⟩) hS ?_
  rotate_left
  · intro w hSw; (try dsimp only at hSw); go_simp; try with_reducible rfl
  try simp only [Act.put, List.setIfInBounds_toArray, List.set_cons_zero, List.set_cons_succ]
  refine wpAnyH_take (i := 23) (v := ?_) rfl (by kernel_rfl) (by kernel_rfl) (by kernel_rfl) (fun _ _ _ h => hP _ _ _ _ h) (Or.inl ⟨by kernel_rfl, ?_⟩) hS ?_
  rotate_left
  · intro w hSw; (try dsimp only at hSw); go_simp; try with_reducible rfl
  try simp only [Act.put, List.setIfInBounds_toArray, List.set_cons_zero, List.set_cons_succ]
  refine wpAnyH_take (i := 24) (v := ?_) rfl (by kernel_rfl) (by kernel_rfl) (by kernel_rfl) (fun _ _ _ h => hP _ _ _ _ h) (Or.inl ⟨by kernel_rfl, ?_⟩) hS ?_
  rotate_left
  · intro w hSw; (try dsimp only at hSw); go_simp; try with_reducible rfl
  try simp only [Act.put, List.setIfInBounds_toArray, List.set_cons_zero, List.set_cons_succ]
  refine wpAnyH_take (i := 25) (v := ?_) rfl (by kernel_rfl) (by kernel_rfl) (by kernel_rfl) (fun _ _ _ h => hP _ _ _ _ h) (Or.inl ⟨by kernel_rfl, ?_⟩) hS ?_
  rotate_left
  · intro w hSw; (try dsimp only at hSw); go_simp; try with_reducible rfl
  try simp only [Act.put, List.setIfInBounds_toArray, List.set_cons_zero, List.set_cons_succ]
  refine wpAnyH_take (i := 26) (v := ?_) rfl (by kernel_rfl) (by kernel_rfl) (by kernel_rfl) (fun _ _ _ h => hP _ _ _ _ h) (Or.inl ⟨by kernel_rfl, ?_⟩) hS ?_
  rotate_left
  · intro w hSw; (try dsimp only at hSw); go_simp; try with_reducible rfl
  try simp only [Act.put, List.setIfInBounds_toArray, List.set_cons_zero, List.set_cons_succ]
  refine wpAnyH_ready (rs := [27]) (by kernel_rfl) (by simp) ?_
  refine AllReadyH.cons rfl (fun K hK0 => ?_) AllReadyH.nil
  go_simp
  refine Shut.out hK0 _ _ (by first | exact ⟨hbx0, hbx1, hx0, hx2⟩ | exact ⟨HK0.out _, HK1.out _, HKa.out _, HKb.out _⟩) (fun hS27 => ?_)
  clear hK0
  try simp only [Act.put, List.setIfInBounds_toArray, List.set_cons_zero, List.set_cons_succ]
  refine wpAnyH_ready (rs := [28]) (by kernel_rfl) (by simp) ?_
  refine AllReadyH.cons rfl (fun K hK0 => ?_) AllReadyH.nil
  go_simp
  refine Shut.out hK0 _ _ (by first | exact ⟨hbx0, hbx1, hx0, hx2⟩ | exact ⟨HK0.out _, HK1.out _, HKa.out _, HKb.out _⟩) (fun hS28 => ?_)
  clear hK0
  try simp only [Act.put, List.setIfInBounds_toArray, List.set_cons_zero, List.set_cons_succ]
  refine wpAnyH_done (by kernel_rfl) ?_ _
  exact hK _ _ _ _ _ _ _ _ _ _ _ _ _ _ _ _ _ _ _ _ _ _ _ _ _ _ _
set_option maxRecDepth 100000 in
set_option maxHeartbeats 20000000 in
theorem reg21_tf {Q : Exit → Act → World → Prop} {B0 B1 i k na nb c0 c1 : Nat} {ad : Addr} {y0 : Int} {A1 : Option Addr} {at_ : Int} {x0 x3 x4 x5 x6 x7 x8 x11 x13 x14 x15 x16 x17 x18 x19 x20 x21 x22 x23 x24 x25 x26 x27 x28 x29 x30 x31 x32 x33 x34 x35 x36 x37 x38 x39 x40 x41 x42 x43 x44 x45 x46 x47 x48 x49 x50 x51 x52 x53 x54 x55 x56 x57 x58 x59 x60 x61 x62 x63 x64 x65 x66 x67 x68 x69 x70 x71 x72 x73 x74 x75 x76 x77 x78 x79 x80 x81 x82 x83 x84 x85 x86 x87 x88 x89 x90 x91 x92 x93 x94 x95 x96 x97 x98 x99 x100 x101 x102 x103 x104 x105 x106 x107 x108 x109 x110 x111 x112 x113 x114 x115 x116 x117 x118 : Value} {wr : World}
    (hbx0 : wr.cell? ⟨B0, 0, none⟩ = some (.slice (some ad) na c0)) (hbx1 : wr.cell? ⟨B1, 0, none⟩ = some (.slice A1 nb c1)) (HK0 : Aside0 (∀ o, (wr.alloc o).cell? ⟨B0, 0, none⟩ = some (.slice (some ad) na c0))) (HK1 : Aside0 (∀ o, (wr.alloc o).cell? ⟨B1, 0, none⟩ = some (.slice A1 nb c1)))
    (hx0 : wr.cell? (ad.add (i * 2)) = some (.int .i64 y0)) (HKa : Aside0 (∀ o, (wr.alloc o).cell? (ad.add (i * 2)) = some (.int .i64 y0)))
    (hilz : (i : Int) < (na : Int)) (hklz : ¬ (k : Int) < (nb : Int))
    (hP : ∀ c (a : Act) tm w, Q (.panic c) { a with tmps := tm } w → Q (.panic c) a w) (hK : ∀ u81 u82 u83 u84 u85 u86 u87 u88 u89 u90 u91 u92 u93 u94 u95 u96 u97 u98 u99 u100 u101 u102 u103 u104 u105 u106 u107 : Value, Q .normal { tmps := #[x0, .pointer (some ⟨B0, 0, none⟩), .pointer (some ⟨B1, 0, none⟩), x3, x4, x5, x6, x7, x8, .int .i64 (i : Int), .int .i64 (k : Int), x11, .int .i64 at_, .pointer (some ⟨wr.heap.size, 0, none⟩), x14, x15, x16, x17, x18, x19, x20, x21, x22, x23, x24, x25, x26, x27, x28, x29, x30, x31, x32, x33, x34, x35, x36, x37, x38, x39, x40, x41, x42, x43, x44, x45, x46, x47, x48, x49, x50, x51, x52, x53, x54, x55, x56, x57, x58, x59, x60, x61, x62, x63, x64, x65, x66, x67, x68, x69, x70, x71, x72, x73, x74, x75, x76, x77, x78, x79, x80, u81, u82, u83, u84, u85, u86, u87, u88, u89, u90, u91, u92, u93, u94, u95, u96, u97, u98, u99, u100, u101, u102, u103, u104, u105, u106, u107, x108, x109, x110, x111, x112, x113, x114, x115, x116, x117, x118], defers := [] } ((wr.alloc (.cells #[.bool (decide (y0 ≤ at_)), .bool (false)] 91)).drew)) :
    Code.wp Try.prog (Code.region 21 ops21 true) Q { tmps := #[x0, .pointer (some ⟨B0, 0, none⟩), .pointer (some ⟨B1, 0, none⟩), x3, x4, x5, x6, x7, x8, .int .i64 (i : Int), .int .i64 (k : Int), x11, .int .i64 at_, x13, x14, x15, x16, x17, x18, x19, x20, x21, x22, x23, x24, x25, x26, x27, x28, x29, x30, x31, x32, x33, x34, x35, x36, x37, x38, x39, x40, x41, x42, x43, x44, x45, x46, x47, x48, x49, x50, x51, x52, x53, x54, x55, x56, x57, x58, x59, x60, x61, x62, x63, x64, x65, x66, x67, x68, x69, x70, x71, x72, x73, x74, x75, x76, x77, x78, x79, x80, x81, x82, x83, x84, x85, x86, x87, x88, x89, x90, x91, x92, x93, x94, x95, x96, x97, x98, x99, x100, x101, x102, x103, x104, x105, x106, x107, x108, x109, x110, x111, x112, x113, x114, x115, x116, x117, x118], defers := [] } wr := by
  have hu91 := Try.underlying91
  have hi1 : i < na := Int.ofNat_lt.1 hilz
  unfold ops21
  refine wp_region_held_drew (S := fun w' => w'.cell? ⟨B0, 0, none⟩ = some (.slice (some ad) na c0) ∧ w'.cell? ⟨B1, 0, none⟩ = some (.slice A1 nb c1) ∧ w'.cell? (ad.add (i * 2)) = some (.int .i64 y0)) (by kernel_rfl) ⟨hbx0, hbx1, hx0⟩ (fun hS => ?_)
  refine wpAnyH_take (i := 0) (v := ?_) rfl (by kernel_rfl) (by kernel_rfl) (by kernel_rfl) (fun _ _ _ h => hP _ _ _ _ h) (Or.inl ⟨by kernel_rfl, ?_⟩) hS ?_
  rotate_left
  · intro w hSw; (try dsimp only at hSw); go_simp; try with_reducible rfl
  try simp only [Act.put, List.setIfInBounds_toArray, List.set_cons_zero, List.set_cons_succ]
  refine wpAnyH_take (i := 1) (v := ?_) rfl (by kernel_rfl) (by kernel_rfl) (by kernel_rfl) (fun _ _ _ h => hP _ _ _ _ h) (Or.inl ⟨by kernel_rfl, ?_⟩) hS ?_
  rotate_left
  · intro w hSw; (try dsimp only at hSw); go_simp; try with_reducible rfl
  try simp only [Act.put, List.setIfInBounds_toArray, List.set_cons_zero, List.set_cons_succ]
  refine wpAnyH_take (i := 2) (v := ?_) rfl (by kernel_rfl) (by kernel_rfl) (by kernel_rfl) (fun _ _ _ h => hP _ _ _ _ h) (Or.inl ⟨by kernel_rfl, ?_⟩) hS ?_
  rotate_left
  · intro w hSw; (try dsimp only at hSw); go_simp; try with_reducible rfl
  try simp only [Act.put, List.setIfInBounds_toArray, List.set_cons_zero, List.set_cons_succ]
  refine wpAnyH_take (i := 3) (v := ?_) rfl (by kernel_rfl) (by kernel_rfl) (by kernel_rfl) (fun _ _ _ h => hP _ _ _ _ h) (Or.inl ⟨by kernel_rfl, ?_⟩) hS ?_
  rotate_left
  · intro w hSw; (try dsimp only at hSw); go_simp; try with_reducible rfl
  try simp only [Act.put, List.setIfInBounds_toArray, List.set_cons_zero, List.set_cons_succ]
  refine wpAnyH_take (i := 4) (v := ?_) rfl (by kernel_rfl) (by kernel_rfl) (by kernel_rfl) (fun _ _ _ h => hP _ _ _ _ h) (Or.inl ⟨by kernel_rfl, ?_⟩) hS ?_
  rotate_left
  · intro w hSw; (try dsimp only at hSw); go_simp; try with_reducible rfl
  try simp only [Act.put, List.setIfInBounds_toArray, List.set_cons_zero, List.set_cons_succ]
  refine wpAnyH_take (i := 5) (v := ?_) rfl (by kernel_rfl) (by kernel_rfl) (by kernel_rfl) (fun _ _ _ h => hP _ _ _ _ h) (Or.inl ⟨by kernel_rfl, ?_⟩) hS ?_
  rotate_left
  · intro w hSw; (try dsimp only at hSw); go_simp; try with_reducible rfl
  try simp only [Act.put, List.setIfInBounds_toArray, List.set_cons_zero, List.set_cons_succ]
  refine wpAnyH_take (i := 6) (v := ?_) rfl (by kernel_rfl) (by kernel_rfl) (by kernel_rfl) (fun _ _ _ h => hP _ _ _ _ h) (Or.inl ⟨by kernel_rfl, ?_⟩) hS ?_
  rotate_left
  · intro w hSw; (try dsimp only at hSw); go_simp; try with_reducible rfl
  try simp only [Act.put, List.setIfInBounds_toArray, List.set_cons_zero, List.set_cons_succ]
  refine wpAnyH_take (i := 7) (v := ?_) rfl (by kernel_rfl) (by kernel_rfl) (by kernel_rfl) (fun _ _ _ h => hP _ _ _ _ h) (Or.inl ⟨by kernel_rfl, ?_⟩) hS ?_
  rotate_left
  · intro w hSw; (try dsimp only at hSw); go_simp; try with_reducible rfl
  try simp only [Act.put, List.setIfInBounds_toArray, List.set_cons_zero, List.set_cons_succ]
  refine wpAnyH_take (i := 8) (v := ?_) rfl (by kernel_rfl) (by kernel_rfl) (by kernel_rfl) (fun _ _ _ h => hP _ _ _ _ h) (Or.inl ⟨by kernel_rfl, ?_⟩) hS ?_
  rotate_left
  · intro w hSw; (try dsimp only at hSw); go_simp; try with_reducible rfl
  try simp only [Act.put, List.setIfInBounds_toArray, List.set_cons_zero, List.set_cons_succ]
  refine wpAnyH_take (i := 9) (v := ?_) rfl (by kernel_rfl) (by kernel_rfl) (by kernel_rfl) (fun _ _ _ h => hP _ _ _ _ h) (Or.inl ⟨by kernel_rfl, ?_⟩) hS ?_
  rotate_left
  · intro w hSw; (try dsimp only at hSw); go_simp; try with_reducible rfl
  try simp only [Act.put, List.setIfInBounds_toArray, List.set_cons_zero, List.set_cons_succ]
  refine wpAnyH_take (i := 10) (v := ?_) rfl (by kernel_rfl) (by kernel_rfl) (by kernel_rfl) (fun _ _ _ h => hP _ _ _ _ h) (Or.inl ⟨by kernel_rfl, ?_⟩) hS ?_
  rotate_left
  · intro w hSw; (try dsimp only at hSw); go_simp; try with_reducible rfl
  try simp only [Act.put, List.setIfInBounds_toArray, List.set_cons_zero, List.set_cons_succ]
  refine wpAnyH_take (i := 11) (v := ?_) rfl (by kernel_rfl) (by kernel_rfl) (by kernel_rfl) (fun _ _ _ h => hP _ _ _ _ h) (Or.inl ⟨by kernel_rfl, ?_⟩) hS ?_
  rotate_left
  · intro w hSw; (try dsimp only at hSw); go_simp; try with_reducible rfl
  try simp only [Act.put, List.setIfInBounds_toArray, List.set_cons_zero, List.set_cons_succ]
  refine wpAnyH_take (i := 12) (v := ?_) rfl (by kernel_rfl) (by kernel_rfl) (by kernel_rfl) (fun _ _ _ h => hP _ _ _ _ h) (Or.inl ⟨by kernel_rfl, ?_⟩) hS ?_
  rotate_left
  · intro w hSw; (try dsimp only at hSw); go_simp; try with_reducible rfl
  try simp only [Act.put, List.setIfInBounds_toArray, List.set_cons_zero, List.set_cons_succ]
  refine wpAnyH_take (i := 13) (v := ?_) rfl (by kernel_rfl) (by kernel_rfl) (by kernel_rfl) (fun _ _ _ h => hP _ _ _ _ h) (Or.inl ⟨by kernel_rfl, ?_⟩) hS ?_
  rotate_left
  · intro w hSw; (try dsimp only at hSw); go_simp; try with_reducible rfl
  try simp only [Act.put, List.setIfInBounds_toArray, List.set_cons_zero, List.set_cons_succ]
  refine wpAnyH_take (i := 14) (v := ?_) rfl (by kernel_rfl) (by kernel_rfl) (by kernel_rfl) (fun _ _ _ h => hP _ _ _ _ h) (Or.inl ⟨by kernel_rfl, ?_⟩) hS ?_
  rotate_left
  · intro w hSw; (try dsimp only at hSw); go_simp; try with_reducible rfl
  try simp only [Act.put, List.setIfInBounds_toArray, List.set_cons_zero, List.set_cons_succ]
  refine wpAnyH_take (i := 15) (v := ?_) rfl (by kernel_rfl) (by kernel_rfl) (by kernel_rfl) (fun _ _ _ h => hP _ _ _ _ h) (Or.inl ⟨by kernel_rfl, ?_⟩) hS ?_
  rotate_left
  · intro w hSw; (try dsimp only at hSw); go_simp; try with_reducible rfl
  try simp only [Act.put, List.setIfInBounds_toArray, List.set_cons_zero, List.set_cons_succ]
  refine wpAnyH_take (i := 16) (v := ?_) rfl (by kernel_rfl) (by kernel_rfl) (by kernel_rfl) (fun _ _ _ h => hP _ _ _ _ h) (Or.inl ⟨by kernel_rfl, ?_⟩) hS ?_
  rotate_left
  · intro w hSw; (try dsimp only at hSw); go_simp; try with_reducible rfl
  try simp only [Act.put, List.setIfInBounds_toArray, List.set_cons_zero, List.set_cons_succ]
  refine wpAnyH_take (i := 17) (v := ?_) rfl (by kernel_rfl) (by kernel_rfl) (by kernel_rfl) (fun _ _ _ h => hP _ _ _ _ h) (Or.inl ⟨by kernel_rfl, ?_⟩) hS ?_
  rotate_left
  · intro w hSw; (try dsimp only at hSw); go_simp; try with_reducible rfl
  try simp only [Act.put, List.setIfInBounds_toArray, List.set_cons_zero, List.set_cons_succ]
  refine wpAnyH_take (i := 18) (v := undef) rfl (by kernel_rfl) (by kernel_rfl) (by kernel_rfl) (fun _ _ _ h => hP _ _ _ _ h) (Or.inr ⟨by kernel_rfl, rfl⟩) hS ?_
  try simp only [Act.put, List.setIfInBounds_toArray, List.set_cons_zero, List.set_cons_succ]
  refine wpAnyH_take (i := 19) (v := undef) rfl (by kernel_rfl) (by kernel_rfl) (by kernel_rfl) (fun _ _ _ h => hP _ _ _ _ h) (Or.inr ⟨by kernel_rfl, rfl⟩) hS ?_
  try simp only [Act.put, List.setIfInBounds_toArray, List.set_cons_zero, List.set_cons_succ]
  refine wpAnyH_take (i := 20) (v := undef) rfl (by kernel_rfl) (by kernel_rfl) (by kernel_rfl) (fun _ _ _ h => hP _ _ _ _ h) (Or.inr ⟨by kernel_rfl, rfl⟩) hS ?_
  try simp only [Act.put, List.setIfInBounds_toArray, List.set_cons_zero, List.set_cons_succ]
  refine wpAnyH_take (i := 21) (v := undef) rfl (by kernel_rfl) (by kernel_rfl) (by kernel_rfl) (fun _ _ _ h => hP _ _ _ _ h) (Or.inr ⟨by kernel_rfl, rfl⟩) hS ?_
  try simp only [Act.put, List.setIfInBounds_toArray, List.set_cons_zero, List.set_cons_succ]
  refine wpAnyH_take (i := 22) (v := undef) rfl (by kernel_rfl) (by kernel_rfl) (by kernel_rfl) (fun _ _ _ h => hP _ _ _ _ h) (Or.inr ⟨by kernel_rfl, rfl⟩) hS ?_
  try simp only [Act.put, List.setIfInBounds_toArray, List.set_cons_zero, List.set_cons_succ]
  refine wpAnyH_take (i := 23) (v := undef) rfl (by kernel_rfl) (by kernel_rfl) (by kernel_rfl) (fun _ _ _ h => hP _ _ _ _ h) (Or.inr ⟨by kernel_rfl, rfl⟩) hS ?_
  try simp only [Act.put, List.setIfInBounds_toArray, List.set_cons_zero, List.set_cons_succ]
  refine wpAnyH_take (i := 24) (v := undef) rfl (by kernel_rfl) (by kernel_rfl) (by kernel_rfl) (fun _ _ _ h => hP _ _ _ _ h) (Or.inr ⟨by kernel_rfl, rfl⟩) hS ?_
  try simp only [Act.put, List.setIfInBounds_toArray, List.set_cons_zero, List.set_cons_succ]
  refine wpAnyH_take (i := 25) (v := ?_) rfl (by kernel_rfl) (by kernel_rfl) (by kernel_rfl) (fun _ _ _ h => hP _ _ _ _ h) (Or.inl ⟨by kernel_rfl, ?_⟩) hS ?_
  rotate_left
  · intro w hSw; (try dsimp only at hSw); go_simp; try with_reducible rfl
  try simp only [Act.put, List.setIfInBounds_toArray, List.set_cons_zero, List.set_cons_succ]
  refine wpAnyH_take (i := 26) (v := ?_) rfl (by kernel_rfl) (by kernel_rfl) (by kernel_rfl) (fun _ _ _ h => hP _ _ _ _ h) (Or.inl ⟨by kernel_rfl, ?_⟩) hS ?_
  rotate_left
  · intro w hSw; (try dsimp only at hSw); go_simp; try with_reducible rfl
  try simp only [Act.put, List.setIfInBounds_toArray, List.set_cons_zero, List.set_cons_succ]
  refine wpAnyH_ready (rs := [27]) (by kernel_rfl) (by simp) ?_
  refine AllReadyH.cons rfl (fun K hK0 => ?_) AllReadyH.nil
  go_simp
  refine Shut.out hK0 _ _ (by first | exact ⟨hbx0, hbx1, hx0⟩ | exact ⟨HK0.out _, HK1.out _, HKa.out _⟩) (fun hS27 => ?_)
  clear hK0
  try simp only [Act.put, List.setIfInBounds_toArray, List.set_cons_zero, List.set_cons_succ]
  refine wpAnyH_ready (rs := [28]) (by kernel_rfl) (by simp) ?_
  refine AllReadyH.cons rfl (fun K hK0 => ?_) AllReadyH.nil
  go_simp
  refine Shut.out hK0 _ _ (by first | exact ⟨hbx0, hbx1, hx0⟩ | exact ⟨HK0.out _, HK1.out _, HKa.out _⟩) (fun hS28 => ?_)
  clear hK0
  try simp only [Act.put, List.setIfInBounds_toArray, List.set_cons_zero, List.set_cons_succ]
  refine wpAnyH_done (by kernel_rfl) ?_ _
  exact hK _ _ _ _ _ _ _ _ _ _ _ _ _ _ _ _ _ _ _ _ _ _ _ _ _ _ _
set_option maxRecDepth 100000 in
set_option maxHeartbeats 20000000 in
theorem reg21_ft {Q : Exit → Act → World → Prop} {B0 B1 i k na nb c0 c1 : Nat} {A0 : Option Addr} {ad2 : Addr} {z0 : Int} {at_ : Int} {x0 x3 x4 x5 x6 x7 x8 x11 x13 x14 x15 x16 x17 x18 x19 x20 x21 x22 x23 x24 x25 x26 x27 x28 x29 x30 x31 x32 x33 x34 x35 x36 x37 x38 x39 x40 x41 x42 x43 x44 x45 x46 x47 x48 x49 x50 x51 x52 x53 x54 x55 x56 x57 x58 x59 x60 x61 x62 x63 x64 x65 x66 x67 x68 x69 x70 x71 x72 x73 x74 x75 x76 x77 x78 x79 x80 x81 x82 x83 x84 x85 x86 x87 x88 x89 x90 x91 x92 x93 x94 x95 x96 x97 x98 x99 x100 x101 x102 x103 x104 x105 x106 x107 x108 x109 x110 x111 x112 x113 x114 x115 x116 x117 x118 : Value} {wr : World}
    (hbx0 : wr.cell? ⟨B0, 0, none⟩ = some (.slice A0 na c0)) (hbx1 : wr.cell? ⟨B1, 0, none⟩ = some (.slice (some ad2) nb c1)) (HK0 : Aside0 (∀ o, (wr.alloc o).cell? ⟨B0, 0, none⟩ = some (.slice A0 na c0))) (HK1 : Aside0 (∀ o, (wr.alloc o).cell? ⟨B1, 0, none⟩ = some (.slice (some ad2) nb c1)))
    (hx2 : wr.cell? (ad2.add (k * 2)) = some (.int .i64 z0)) (HKb : Aside0 (∀ o, (wr.alloc o).cell? (ad2.add (k * 2)) = some (.int .i64 z0)))
    (hilz : ¬ (i : Int) < (na : Int)) (hklz : (k : Int) < (nb : Int))
    (hP : ∀ c (a : Act) tm w, Q (.panic c) { a with tmps := tm } w → Q (.panic c) a w) (hK : ∀ u81 u82 u83 u84 u85 u86 u87 u88 u89 u90 u91 u92 u93 u94 u95 u96 u97 u98 u99 u100 u101 u102 u103 u104 u105 u106 u107 : Value, Q .normal { tmps := #[x0, .pointer (some ⟨B0, 0, none⟩), .pointer (some ⟨B1, 0, none⟩), x3, x4, x5, x6, x7, x8, .int .i64 (i : Int), .int .i64 (k : Int), x11, .int .i64 at_, .pointer (some ⟨wr.heap.size, 0, none⟩), x14, x15, x16, x17, x18, x19, x20, x21, x22, x23, x24, x25, x26, x27, x28, x29, x30, x31, x32, x33, x34, x35, x36, x37, x38, x39, x40, x41, x42, x43, x44, x45, x46, x47, x48, x49, x50, x51, x52, x53, x54, x55, x56, x57, x58, x59, x60, x61, x62, x63, x64, x65, x66, x67, x68, x69, x70, x71, x72, x73, x74, x75, x76, x77, x78, x79, x80, u81, u82, u83, u84, u85, u86, u87, u88, u89, u90, u91, u92, u93, u94, u95, u96, u97, u98, u99, u100, u101, u102, u103, u104, u105, u106, u107, x108, x109, x110, x111, x112, x113, x114, x115, x116, x117, x118], defers := [] } ((wr.alloc (.cells #[.bool (false), .bool (decide (z0 ≤ at_))] 91)).drew)) :
    Code.wp Try.prog (Code.region 21 ops21 true) Q { tmps := #[x0, .pointer (some ⟨B0, 0, none⟩), .pointer (some ⟨B1, 0, none⟩), x3, x4, x5, x6, x7, x8, .int .i64 (i : Int), .int .i64 (k : Int), x11, .int .i64 at_, x13, x14, x15, x16, x17, x18, x19, x20, x21, x22, x23, x24, x25, x26, x27, x28, x29, x30, x31, x32, x33, x34, x35, x36, x37, x38, x39, x40, x41, x42, x43, x44, x45, x46, x47, x48, x49, x50, x51, x52, x53, x54, x55, x56, x57, x58, x59, x60, x61, x62, x63, x64, x65, x66, x67, x68, x69, x70, x71, x72, x73, x74, x75, x76, x77, x78, x79, x80, x81, x82, x83, x84, x85, x86, x87, x88, x89, x90, x91, x92, x93, x94, x95, x96, x97, x98, x99, x100, x101, x102, x103, x104, x105, x106, x107, x108, x109, x110, x111, x112, x113, x114, x115, x116, x117, x118], defers := [] } wr := by
  have hu91 := Try.underlying91
  have hk1 : k < nb := Int.ofNat_lt.1 hklz
  unfold ops21
  refine wp_region_held_drew (S := fun w' => w'.cell? ⟨B0, 0, none⟩ = some (.slice A0 na c0) ∧ w'.cell? ⟨B1, 0, none⟩ = some (.slice (some ad2) nb c1) ∧ w'.cell? (ad2.add (k * 2)) = some (.int .i64 z0)) (by kernel_rfl) ⟨hbx0, hbx1, hx2⟩ (fun hS => ?_)
  refine wpAnyH_take (i := 0) (v := ?_) rfl (by kernel_rfl) (by kernel_rfl) (by kernel_rfl) (fun _ _ _ h => hP _ _ _ _ h) (Or.inl ⟨by kernel_rfl, ?_⟩) hS ?_
  rotate_left
  · intro w hSw; (try dsimp only at hSw); go_simp; try with_reducible rfl
  try simp only [Act.put, List.setIfInBounds_toArray, List.set_cons_zero, List.set_cons_succ]
  refine wpAnyH_take (i := 1) (v := ?_) rfl (by kernel_rfl) (by kernel_rfl) (by kernel_rfl) (fun _ _ _ h => hP _ _ _ _ h) (Or.inl ⟨by kernel_rfl, ?_⟩) hS ?_
  rotate_left
  · intro w hSw; (try dsimp only at hSw); go_simp; try with_reducible rfl
  try simp only [Act.put, List.setIfInBounds_toArray, List.set_cons_zero, List.set_cons_succ]
  refine wpAnyH_take (i := 2) (v := ?_) rfl (by kernel_rfl) (by kernel_rfl) (by kernel_rfl) (fun _ _ _ h => hP _ _ _ _ h) (Or.inl ⟨by kernel_rfl, ?_⟩) hS ?_
  rotate_left
  · intro w hSw; (try dsimp only at hSw); go_simp; try with_reducible rfl
  try simp only [Act.put, List.setIfInBounds_toArray, List.set_cons_zero, List.set_cons_succ]
  refine wpAnyH_take (i := 3) (v := ?_) rfl (by kernel_rfl) (by kernel_rfl) (by kernel_rfl) (fun _ _ _ h => hP _ _ _ _ h) (Or.inl ⟨by kernel_rfl, ?_⟩) hS ?_
  rotate_left
  · intro w hSw; (try dsimp only at hSw); go_simp; try with_reducible rfl
  try simp only [Act.put, List.setIfInBounds_toArray, List.set_cons_zero, List.set_cons_succ]
  refine wpAnyH_take (i := 4) (v := ?_) rfl (by kernel_rfl) (by kernel_rfl) (by kernel_rfl) (fun _ _ _ h => hP _ _ _ _ h) (Or.inl ⟨by kernel_rfl, ?_⟩) hS ?_
  rotate_left
  · intro w hSw; (try dsimp only at hSw); go_simp; try with_reducible rfl
  try simp only [Act.put, List.setIfInBounds_toArray, List.set_cons_zero, List.set_cons_succ]
  refine wpAnyH_take (i := 5) (v := undef) rfl (by kernel_rfl) (by kernel_rfl) (by kernel_rfl) (fun _ _ _ h => hP _ _ _ _ h) (Or.inr ⟨by kernel_rfl, rfl⟩) hS ?_
  try simp only [Act.put, List.setIfInBounds_toArray, List.set_cons_zero, List.set_cons_succ]
  refine wpAnyH_take (i := 6) (v := undef) rfl (by kernel_rfl) (by kernel_rfl) (by kernel_rfl) (fun _ _ _ h => hP _ _ _ _ h) (Or.inr ⟨by kernel_rfl, rfl⟩) hS ?_
  try simp only [Act.put, List.setIfInBounds_toArray, List.set_cons_zero, List.set_cons_succ]
  refine wpAnyH_take (i := 7) (v := undef) rfl (by kernel_rfl) (by kernel_rfl) (by kernel_rfl) (fun _ _ _ h => hP _ _ _ _ h) (Or.inr ⟨by kernel_rfl, rfl⟩) hS ?_
  try simp only [Act.put, List.setIfInBounds_toArray, List.set_cons_zero, List.set_cons_succ]
  refine wpAnyH_take (i := 8) (v := undef) rfl (by kernel_rfl) (by kernel_rfl) (by kernel_rfl) (fun _ _ _ h => hP _ _ _ _ h) (Or.inr ⟨by kernel_rfl, rfl⟩) hS ?_
  try simp only [Act.put, List.setIfInBounds_toArray, List.set_cons_zero, List.set_cons_succ]
  refine wpAnyH_take (i := 9) (v := undef) rfl (by kernel_rfl) (by kernel_rfl) (by kernel_rfl) (fun _ _ _ h => hP _ _ _ _ h) (Or.inr ⟨by kernel_rfl, rfl⟩) hS ?_
  try simp only [Act.put, List.setIfInBounds_toArray, List.set_cons_zero, List.set_cons_succ]
  refine wpAnyH_take (i := 10) (v := undef) rfl (by kernel_rfl) (by kernel_rfl) (by kernel_rfl) (fun _ _ _ h => hP _ _ _ _ h) (Or.inr ⟨by kernel_rfl, rfl⟩) hS ?_
  try simp only [Act.put, List.setIfInBounds_toArray, List.set_cons_zero, List.set_cons_succ]
  refine wpAnyH_take (i := 11) (v := undef) rfl (by kernel_rfl) (by kernel_rfl) (by kernel_rfl) (fun _ _ _ h => hP _ _ _ _ h) (Or.inr ⟨by kernel_rfl, rfl⟩) hS ?_
  try simp only [Act.put, List.setIfInBounds_toArray, List.set_cons_zero, List.set_cons_succ]
  refine wpAnyH_take (i := 12) (v := ?_) rfl (by kernel_rfl) (by kernel_rfl) (by kernel_rfl) (fun _ _ _ h => hP _ _ _ _ h) (Or.inl ⟨by kernel_rfl, ?_⟩) hS ?_
  rotate_left
  · intro w hSw; (try dsimp only at hSw); go_simp; try with_reducible rfl
  try simp only [Act.put, List.setIfInBounds_toArray, List.set_cons_zero, List.set_cons_succ]
  refine wpAnyH_take (i := 13) (v := ?_) rfl (by kernel_rfl) (by kernel_rfl) (by kernel_rfl) (fun _ _ _ h => hP _ _ _ _ h) (Or.inl ⟨by kernel_rfl, ?_⟩) hS ?_
  rotate_left
  · intro w hSw; (try dsimp only at hSw); go_simp; try with_reducible rfl
  try simp only [Act.put, List.setIfInBounds_toArray, List.set_cons_zero, List.set_cons_succ]
  refine wpAnyH_take (i := 14) (v := ?_) rfl (by kernel_rfl) (by kernel_rfl) (by kernel_rfl) (fun _ _ _ h => hP _ _ _ _ h) (Or.inl ⟨by kernel_rfl, ?_⟩) hS ?_
  rotate_left
  · intro w hSw; (try dsimp only at hSw); go_simp; try with_reducible rfl
  try simp only [Act.put, List.setIfInBounds_toArray, List.set_cons_zero, List.set_cons_succ]
  refine wpAnyH_take (i := 15) (v := ?_) rfl (by kernel_rfl) (by kernel_rfl) (by kernel_rfl) (fun _ _ _ h => hP _ _ _ _ h) (Or.inl ⟨by kernel_rfl, ?_⟩) hS ?_
  rotate_left
  · intro w hSw; (try dsimp only at hSw); go_simp; try with_reducible rfl
  try simp only [Act.put, List.setIfInBounds_toArray, List.set_cons_zero, List.set_cons_succ]
  refine wpAnyH_take (i := 16) (v := ?_) rfl (by kernel_rfl) (by kernel_rfl) (by kernel_rfl) (fun _ _ _ h => hP _ _ _ _ h) (Or.inl ⟨by kernel_rfl, ?_⟩) hS ?_
  rotate_left
  · intro w hSw; (try dsimp only at hSw); go_simp; try with_reducible rfl
  try simp only [Act.put, List.setIfInBounds_toArray, List.set_cons_zero, List.set_cons_succ]
  refine wpAnyH_take (i := 17) (v := ?_) rfl (by kernel_rfl) (by kernel_rfl) (by kernel_rfl) (fun _ _ _ h => hP _ _ _ _ h) (Or.inl ⟨by kernel_rfl, ?_⟩) hS ?_
  rotate_left
  · intro w hSw; (try dsimp only at hSw); go_simp; try with_reducible rfl
  try simp only [Act.put, List.setIfInBounds_toArray, List.set_cons_zero, List.set_cons_succ]
  refine wpAnyH_take (i := 18) (v := ?_) rfl (by kernel_rfl) (by kernel_rfl) (by kernel_rfl) (fun _ _ _ h => hP _ _ _ _ h) (Or.inl ⟨by kernel_rfl, ?_⟩) hS ?_
  rotate_left
  · intro w hSw; (try dsimp only at hSw); go_simp; try with_reducible rfl
  try simp only [Act.put, List.setIfInBounds_toArray, List.set_cons_zero, List.set_cons_succ]
  refine wpAnyH_take (i := 19) (v := ?_) rfl (by kernel_rfl) (by kernel_rfl) (by kernel_rfl) (fun _ _ _ h => hP _ _ _ _ h) (Or.inl ⟨by kernel_rfl, ?_⟩) hS ?_
  rotate_left
  · intro w hSw; (try dsimp only at hSw); go_simp; try with_reducible rfl
  try simp only [Act.put, List.setIfInBounds_toArray, List.set_cons_zero, List.set_cons_succ]
  refine wpAnyH_take (i := 20) (v := ?_) rfl (by kernel_rfl) (by kernel_rfl) (by kernel_rfl) (fun _ _ _ h => hP _ _ _ _ h) (Or.inl ⟨by kernel_rfl, ?_⟩) hS ?_
  rotate_left
  · intro w hSw; (try dsimp only at hSw); go_simp; try with_reducible rfl
  try simp only [Act.put, List.setIfInBounds_toArray, List.set_cons_zero, List.set_cons_succ]
  refine wpAnyH_take (i := 21) (v := ?_) rfl (by kernel_rfl) (by kernel_rfl) (by kernel_rfl) (fun _ _ _ h => hP _ _ _ _ h) (Or.inl ⟨by kernel_rfl, ?_⟩) hS ?_
  rotate_left
  · intro w hSw; (try dsimp only at hSw); go_simp; try with_reducible rfl
  try simp only [Act.put, List.setIfInBounds_toArray, List.set_cons_zero, List.set_cons_succ]
  refine wpAnyH_take (i := 22) (v := ?_) rfl (by kernel_rfl) (by kernel_rfl) (by kernel_rfl) (fun _ _ _ h => hP _ _ _ _ h) (Or.inl ⟨by kernel_rfl, ?_⟩) hS ?_
  rotate_left
  · intro w hSw; (try dsimp only at hSw); go_simp; try with_reducible rfl
  try simp only [Act.put, List.setIfInBounds_toArray, List.set_cons_zero, List.set_cons_succ]
  refine wpAnyH_take (i := 23) (v := ?_) rfl (by kernel_rfl) (by kernel_rfl) (by kernel_rfl) (fun _ _ _ h => hP _ _ _ _ h) (Or.inl ⟨by kernel_rfl, ?_⟩) hS ?_
  rotate_left
  · intro w hSw; (try dsimp only at hSw); go_simp; try with_reducible rfl
  try simp only [Act.put, List.setIfInBounds_toArray, List.set_cons_zero, List.set_cons_succ]
  refine wpAnyH_take (i := 24) (v := ?_) rfl (by kernel_rfl) (by kernel_rfl) (by kernel_rfl) (fun _ _ _ h => hP _ _ _ _ h) (Or.inl ⟨by kernel_rfl, ?_⟩) hS ?_
  rotate_left
  · intro w hSw; (try dsimp only at hSw); go_simp; try with_reducible rfl
  try simp only [Act.put, List.setIfInBounds_toArray, List.set_cons_zero, List.set_cons_succ]
  refine wpAnyH_take (i := 25) (v := ?_) rfl (by kernel_rfl) (by kernel_rfl) (by kernel_rfl) (fun _ _ _ h => hP _ _ _ _ h) (Or.inl ⟨by kernel_rfl, ?_⟩) hS ?_
  rotate_left
  · intro w hSw; (try dsimp only at hSw); go_simp; try with_reducible rfl
  try simp only [Act.put, List.setIfInBounds_toArray, List.set_cons_zero, List.set_cons_succ]
  refine wpAnyH_take (i := 26) (v := ?_) rfl (by kernel_rfl) (by kernel_rfl) (by kernel_rfl) (fun _ _ _ h => hP _ _ _ _ h) (Or.inl ⟨by kernel_rfl, ?_⟩) hS ?_
  rotate_left
  · intro w hSw; (try dsimp only at hSw); go_simp; try with_reducible rfl
  try simp only [Act.put, List.setIfInBounds_toArray, List.set_cons_zero, List.set_cons_succ]
  refine wpAnyH_ready (rs := [27]) (by kernel_rfl) (by simp) ?_
  refine AllReadyH.cons rfl (fun K hK0 => ?_) AllReadyH.nil
  go_simp
  refine Shut.out hK0 _ _ (by first | exact ⟨hbx0, hbx1, hx2⟩ | exact ⟨HK0.out _, HK1.out _, HKb.out _⟩) (fun hS27 => ?_)
  clear hK0
  try simp only [Act.put, List.setIfInBounds_toArray, List.set_cons_zero, List.set_cons_succ]
  refine wpAnyH_ready (rs := [28]) (by kernel_rfl) (by simp) ?_
  refine AllReadyH.cons rfl (fun K hK0 => ?_) AllReadyH.nil
  go_simp
  refine Shut.out hK0 _ _ (by first | exact ⟨hbx0, hbx1, hx2⟩ | exact ⟨HK0.out _, HK1.out _, HKb.out _⟩) (fun hS28 => ?_)
  clear hK0
  try simp only [Act.put, List.setIfInBounds_toArray, List.set_cons_zero, List.set_cons_succ]
  refine wpAnyH_done (by kernel_rfl) ?_ _
  exact hK _ _ _ _ _ _ _ _ _ _ _ _ _ _ _ _ _ _ _ _ _ _ _ _ _ _ _
set_option maxRecDepth 100000 in
set_option maxHeartbeats 20000000 in
theorem reg21_ff {Q : Exit → Act → World → Prop} {B0 B1 i k na nb c0 c1 : Nat} {A0 : Option Addr} {A1 : Option Addr} {at_ : Int} {x0 x3 x4 x5 x6 x7 x8 x11 x13 x14 x15 x16 x17 x18 x19 x20 x21 x22 x23 x24 x25 x26 x27 x28 x29 x30 x31 x32 x33 x34 x35 x36 x37 x38 x39 x40 x41 x42 x43 x44 x45 x46 x47 x48 x49 x50 x51 x52 x53 x54 x55 x56 x57 x58 x59 x60 x61 x62 x63 x64 x65 x66 x67 x68 x69 x70 x71 x72 x73 x74 x75 x76 x77 x78 x79 x80 x81 x82 x83 x84 x85 x86 x87 x88 x89 x90 x91 x92 x93 x94 x95 x96 x97 x98 x99 x100 x101 x102 x103 x104 x105 x106 x107 x108 x109 x110 x111 x112 x113 x114 x115 x116 x117 x118 : Value} {wr : World}
    (hbx0 : wr.cell? ⟨B0, 0, none⟩ = some (.slice A0 na c0)) (hbx1 : wr.cell? ⟨B1, 0, none⟩ = some (.slice A1 nb c1)) (HK0 : Aside0 (∀ o, (wr.alloc o).cell? ⟨B0, 0, none⟩ = some (.slice A0 na c0))) (HK1 : Aside0 (∀ o, (wr.alloc o).cell? ⟨B1, 0, none⟩ = some (.slice A1 nb c1)))
    (hilz : ¬ (i : Int) < (na : Int)) (hklz : ¬ (k : Int) < (nb : Int))
    (hP : ∀ c (a : Act) tm w, Q (.panic c) { a with tmps := tm } w → Q (.panic c) a w) (hK : ∀ u81 u82 u83 u84 u85 u86 u87 u88 u89 u90 u91 u92 u93 u94 u95 u96 u97 u98 u99 u100 u101 u102 u103 u104 u105 u106 u107 : Value, Q .normal { tmps := #[x0, .pointer (some ⟨B0, 0, none⟩), .pointer (some ⟨B1, 0, none⟩), x3, x4, x5, x6, x7, x8, .int .i64 (i : Int), .int .i64 (k : Int), x11, .int .i64 at_, .pointer (some ⟨wr.heap.size, 0, none⟩), x14, x15, x16, x17, x18, x19, x20, x21, x22, x23, x24, x25, x26, x27, x28, x29, x30, x31, x32, x33, x34, x35, x36, x37, x38, x39, x40, x41, x42, x43, x44, x45, x46, x47, x48, x49, x50, x51, x52, x53, x54, x55, x56, x57, x58, x59, x60, x61, x62, x63, x64, x65, x66, x67, x68, x69, x70, x71, x72, x73, x74, x75, x76, x77, x78, x79, x80, u81, u82, u83, u84, u85, u86, u87, u88, u89, u90, u91, u92, u93, u94, u95, u96, u97, u98, u99, u100, u101, u102, u103, u104, u105, u106, u107, x108, x109, x110, x111, x112, x113, x114, x115, x116, x117, x118], defers := [] } ((wr.alloc (.cells #[.bool (false), .bool (false)] 91)).drew)) :
    Code.wp Try.prog (Code.region 21 ops21 true) Q { tmps := #[x0, .pointer (some ⟨B0, 0, none⟩), .pointer (some ⟨B1, 0, none⟩), x3, x4, x5, x6, x7, x8, .int .i64 (i : Int), .int .i64 (k : Int), x11, .int .i64 at_, x13, x14, x15, x16, x17, x18, x19, x20, x21, x22, x23, x24, x25, x26, x27, x28, x29, x30, x31, x32, x33, x34, x35, x36, x37, x38, x39, x40, x41, x42, x43, x44, x45, x46, x47, x48, x49, x50, x51, x52, x53, x54, x55, x56, x57, x58, x59, x60, x61, x62, x63, x64, x65, x66, x67, x68, x69, x70, x71, x72, x73, x74, x75, x76, x77, x78, x79, x80, x81, x82, x83, x84, x85, x86, x87, x88, x89, x90, x91, x92, x93, x94, x95, x96, x97, x98, x99, x100, x101, x102, x103, x104, x105, x106, x107, x108, x109, x110, x111, x112, x113, x114, x115, x116, x117, x118], defers := [] } wr := by
  have hu91 := Try.underlying91
  unfold ops21
  refine wp_region_held_drew (S := fun w' => w'.cell? ⟨B0, 0, none⟩ = some (.slice A0 na c0) ∧ w'.cell? ⟨B1, 0, none⟩ = some (.slice A1 nb c1)) (by kernel_rfl) ⟨hbx0, hbx1⟩ (fun hS => ?_)
  refine wpAnyH_take (i := 0) (v := ?_) rfl (by kernel_rfl) (by kernel_rfl) (by kernel_rfl) (fun _ _ _ h => hP _ _ _ _ h) (Or.inl ⟨by kernel_rfl, ?_⟩) hS ?_
  rotate_left
  · intro w hSw; (try dsimp only at hSw); go_simp; try with_reducible rfl
  try simp only [Act.put, List.setIfInBounds_toArray, List.set_cons_zero, List.set_cons_succ]
  refine wpAnyH_take (i := 1) (v := ?_) rfl (by kernel_rfl) (by kernel_rfl) (by kernel_rfl) (fun _ _ _ h => hP _ _ _ _ h) (Or.inl ⟨by kernel_rfl, ?_⟩) hS ?_
  rotate_left
  · intro w hSw; (try dsimp only at hSw); go_simp; try with_reducible rfl
  try simp only [Act.put, List.setIfInBounds_toArray, List.set_cons_zero, List.set_cons_succ]
  refine wpAnyH_take (i := 2) (v := ?_) rfl (by kernel_rfl) (by kernel_rfl) (by kernel_rfl) (fun _ _ _ h => hP _ _ _ _ h) (Or.inl ⟨by kernel_rfl, ?_⟩) hS ?_
  rotate_left
  · intro w hSw; (try dsimp only at hSw); go_simp; try with_reducible rfl
  try simp only [Act.put, List.setIfInBounds_toArray, List.set_cons_zero, List.set_cons_succ]
  refine wpAnyH_take (i := 3) (v := ?_) rfl (by kernel_rfl) (by kernel_rfl) (by kernel_rfl) (fun _ _ _ h => hP _ _ _ _ h) (Or.inl ⟨by kernel_rfl, ?_⟩) hS ?_
  rotate_left
  · intro w hSw; (try dsimp only at hSw); go_simp; try with_reducible rfl
  try simp only [Act.put, List.setIfInBounds_toArray, List.set_cons_zero, List.set_cons_succ]
  refine wpAnyH_take (i := 4) (v := ?_) rfl (by kernel_rfl) (by kernel_rfl) (by kernel_rfl) (fun _ _ _ h => hP _ _ _ _ h) (Or.inl ⟨by kernel_rfl, ?_⟩) hS ?_
  rotate_left
  · intro w hSw; (try dsimp only at hSw); go_simp; try with_reducible rfl
  try simp only [Act.put, List.setIfInBounds_toArray, List.set_cons_zero, List.set_cons_succ]
  refine wpAnyH_take (i := 5) (v := undef) rfl (by kernel_rfl) (by kernel_rfl) (by kernel_rfl) (fun _ _ _ h => hP _ _ _ _ h) (Or.inr ⟨by kernel_rfl, rfl⟩) hS ?_
  try simp only [Act.put, List.setIfInBounds_toArray, List.set_cons_zero, List.set_cons_succ]
  refine wpAnyH_take (i := 6) (v := undef) rfl (by kernel_rfl) (by kernel_rfl) (by kernel_rfl) (fun _ _ _ h => hP _ _ _ _ h) (Or.inr ⟨by kernel_rfl, rfl⟩) hS ?_
  try simp only [Act.put, List.setIfInBounds_toArray, List.set_cons_zero, List.set_cons_succ]
  refine wpAnyH_take (i := 7) (v := undef) rfl (by kernel_rfl) (by kernel_rfl) (by kernel_rfl) (fun _ _ _ h => hP _ _ _ _ h) (Or.inr ⟨by kernel_rfl, rfl⟩) hS ?_
  try simp only [Act.put, List.setIfInBounds_toArray, List.set_cons_zero, List.set_cons_succ]
  refine wpAnyH_take (i := 8) (v := undef) rfl (by kernel_rfl) (by kernel_rfl) (by kernel_rfl) (fun _ _ _ h => hP _ _ _ _ h) (Or.inr ⟨by kernel_rfl, rfl⟩) hS ?_
  try simp only [Act.put, List.setIfInBounds_toArray, List.set_cons_zero, List.set_cons_succ]
  refine wpAnyH_take (i := 9) (v := undef) rfl (by kernel_rfl) (by kernel_rfl) (by kernel_rfl) (fun _ _ _ h => hP _ _ _ _ h) (Or.inr ⟨by kernel_rfl, rfl⟩) hS ?_
  try simp only [Act.put, List.setIfInBounds_toArray, List.set_cons_zero, List.set_cons_succ]
  refine wpAnyH_take (i := 10) (v := undef) rfl (by kernel_rfl) (by kernel_rfl) (by kernel_rfl) (fun _ _ _ h => hP _ _ _ _ h) (Or.inr ⟨by kernel_rfl, rfl⟩) hS ?_
  try simp only [Act.put, List.setIfInBounds_toArray, List.set_cons_zero, List.set_cons_succ]
  refine wpAnyH_take (i := 11) (v := undef) rfl (by kernel_rfl) (by kernel_rfl) (by kernel_rfl) (fun _ _ _ h => hP _ _ _ _ h) (Or.inr ⟨by kernel_rfl, rfl⟩) hS ?_
  try simp only [Act.put, List.setIfInBounds_toArray, List.set_cons_zero, List.set_cons_succ]
  refine wpAnyH_take (i := 12) (v := ?_) rfl (by kernel_rfl) (by kernel_rfl) (by kernel_rfl) (fun _ _ _ h => hP _ _ _ _ h) (Or.inl ⟨by kernel_rfl, ?_⟩) hS ?_
  rotate_left
  · intro w hSw; (try dsimp only at hSw); go_simp; try with_reducible rfl
  try simp only [Act.put, List.setIfInBounds_toArray, List.set_cons_zero, List.set_cons_succ]
  refine wpAnyH_take (i := 13) (v := ?_) rfl (by kernel_rfl) (by kernel_rfl) (by kernel_rfl) (fun _ _ _ h => hP _ _ _ _ h) (Or.inl ⟨by kernel_rfl, ?_⟩) hS ?_
  rotate_left
  · intro w hSw; (try dsimp only at hSw); go_simp; try with_reducible rfl
  try simp only [Act.put, List.setIfInBounds_toArray, List.set_cons_zero, List.set_cons_succ]
  refine wpAnyH_take (i := 14) (v := ?_) rfl (by kernel_rfl) (by kernel_rfl) (by kernel_rfl) (fun _ _ _ h => hP _ _ _ _ h) (Or.inl ⟨by kernel_rfl, ?_⟩) hS ?_
  rotate_left
  · intro w hSw; (try dsimp only at hSw); go_simp; try with_reducible rfl
  try simp only [Act.put, List.setIfInBounds_toArray, List.set_cons_zero, List.set_cons_succ]
  refine wpAnyH_take (i := 15) (v := ?_) rfl (by kernel_rfl) (by kernel_rfl) (by kernel_rfl) (fun _ _ _ h => hP _ _ _ _ h) (Or.inl ⟨by kernel_rfl, ?_⟩) hS ?_
  rotate_left
  · intro w hSw; (try dsimp only at hSw); go_simp; try with_reducible rfl
  try simp only [Act.put, List.setIfInBounds_toArray, List.set_cons_zero, List.set_cons_succ]
  refine wpAnyH_take (i := 16) (v := ?_) rfl (by kernel_rfl) (by kernel_rfl) (by kernel_rfl) (fun _ _ _ h => hP _ _ _ _ h) (Or.inl ⟨by kernel_rfl, ?_⟩) hS ?_
  rotate_left
  · intro w hSw; (try dsimp only at hSw); go_simp; try with_reducible rfl
  try simp only [Act.put, List.setIfInBounds_toArray, List.set_cons_zero, List.set_cons_succ]
  refine wpAnyH_take (i := 17) (v := ?_) rfl (by kernel_rfl) (by kernel_rfl) (by kernel_rfl) (fun _ _ _ h => hP _ _ _ _ h) (Or.inl ⟨by kernel_rfl, ?_⟩) hS ?_
  rotate_left
  · intro w hSw; (try dsimp only at hSw); go_simp; try with_reducible rfl
  try simp only [Act.put, List.setIfInBounds_toArray, List.set_cons_zero, List.set_cons_succ]
  refine wpAnyH_take (i := 18) (v := undef) rfl (by kernel_rfl) (by kernel_rfl) (by kernel_rfl) (fun _ _ _ h => hP _ _ _ _ h) (Or.inr ⟨by kernel_rfl, rfl⟩) hS ?_
  try simp only [Act.put, List.setIfInBounds_toArray, List.set_cons_zero, List.set_cons_succ]
  refine wpAnyH_take (i := 19) (v := undef) rfl (by kernel_rfl) (by kernel_rfl) (by kernel_rfl) (fun _ _ _ h => hP _ _ _ _ h) (Or.inr ⟨by kernel_rfl, rfl⟩) hS ?_
  try simp only [Act.put, List.setIfInBounds_toArray, List.set_cons_zero, List.set_cons_succ]
  refine wpAnyH_take (i := 20) (v := undef) rfl (by kernel_rfl) (by kernel_rfl) (by kernel_rfl) (fun _ _ _ h => hP _ _ _ _ h) (Or.inr ⟨by kernel_rfl, rfl⟩) hS ?_
  try simp only [Act.put, List.setIfInBounds_toArray, List.set_cons_zero, List.set_cons_succ]
  refine wpAnyH_take (i := 21) (v := undef) rfl (by kernel_rfl) (by kernel_rfl) (by kernel_rfl) (fun _ _ _ h => hP _ _ _ _ h) (Or.inr ⟨by kernel_rfl, rfl⟩) hS ?_
  try simp only [Act.put, List.setIfInBounds_toArray, List.set_cons_zero, List.set_cons_succ]
  refine wpAnyH_take (i := 22) (v := undef) rfl (by kernel_rfl) (by kernel_rfl) (by kernel_rfl) (fun _ _ _ h => hP _ _ _ _ h) (Or.inr ⟨by kernel_rfl, rfl⟩) hS ?_
  try simp only [Act.put, List.setIfInBounds_toArray, List.set_cons_zero, List.set_cons_succ]
  refine wpAnyH_take (i := 23) (v := undef) rfl (by kernel_rfl) (by kernel_rfl) (by kernel_rfl) (fun _ _ _ h => hP _ _ _ _ h) (Or.inr ⟨by kernel_rfl, rfl⟩) hS ?_
  try simp only [Act.put, List.setIfInBounds_toArray, List.set_cons_zero, List.set_cons_succ]
  refine wpAnyH_take (i := 24) (v := undef) rfl (by kernel_rfl) (by kernel_rfl) (by kernel_rfl) (fun _ _ _ h => hP _ _ _ _ h) (Or.inr ⟨by kernel_rfl, rfl⟩) hS ?_
  try simp only [Act.put, List.setIfInBounds_toArray, List.set_cons_zero, List.set_cons_succ]
  refine wpAnyH_take (i := 25) (v := ?_) rfl (by kernel_rfl) (by kernel_rfl) (by kernel_rfl) (fun _ _ _ h => hP _ _ _ _ h) (Or.inl ⟨by kernel_rfl, ?_⟩) hS ?_
  rotate_left
  · intro w hSw; (try dsimp only at hSw); go_simp; try with_reducible rfl
  try simp only [Act.put, List.setIfInBounds_toArray, List.set_cons_zero, List.set_cons_succ]
  refine wpAnyH_take (i := 26) (v := ?_) rfl (by kernel_rfl) (by kernel_rfl) (by kernel_rfl) (fun _ _ _ h => hP _ _ _ _ h) (Or.inl ⟨by kernel_rfl, ?_⟩) hS ?_
  rotate_left
  · intro w hSw; (try dsimp only at hSw); go_simp; try with_reducible rfl
  try simp only [Act.put, List.setIfInBounds_toArray, List.set_cons_zero, List.set_cons_succ]
  refine wpAnyH_ready (rs := [27]) (by kernel_rfl) (by simp) ?_
  refine AllReadyH.cons rfl (fun K hK0 => ?_) AllReadyH.nil
  go_simp
  refine Shut.out hK0 _ _ (by first | exact ⟨hbx0, hbx1⟩ | exact ⟨HK0.out _, HK1.out _⟩) (fun hS27 => ?_)
  clear hK0
  try simp only [Act.put, List.setIfInBounds_toArray, List.set_cons_zero, List.set_cons_succ]
  refine wpAnyH_ready (rs := [28]) (by kernel_rfl) (by simp) ?_
  refine AllReadyH.cons rfl (fun K hK0 => ?_) AllReadyH.nil
  go_simp
  refine Shut.out hK0 _ _ (by first | exact ⟨hbx0, hbx1⟩ | exact ⟨HK0.out _, HK1.out _⟩) (fun hS28 => ?_)
  clear hK0
  try simp only [Act.put, List.setIfInBounds_toArray, List.set_cons_zero, List.set_cons_succ]
  refine wpAnyH_done (by kernel_rfl) ?_ _
  exact hK _ _ _ _ _ _ _ _ _ _ _ _ _ _ _ _ _ _ _ _ _ _ _ _ _ _ _
end Go.Proofs.Ytningpmoojnomaa.Pr
end
