/- What the proof of the law needs, trimmed and merged by wip/pack.py out of the texts YtningpmoojnomaaTol, YtningpmoojnomaaArgs, YtningpmoojnomaaWalkSpanTolerates, YtningpmoojnomaaRowSpanTolerates. No condition. -/
import Derived.Deep.Slices
import Derived.Deep.Fields
import Derived.ChangeSame
import Derived.Lib.SmallJoins
import Derived.OpenShut
import Derived.Test.YtningpmoojnomaaRows
import Derived.WalkKit
import Derived.ProofKit
import Derived.ShutString
import Derived.ChangeOld
import Derived.Below
import Derived.SizedLaws
import Derived.Test.YtningpmoojnomaaKSpanTolerates0
import Derived.Test.YtningpmoojnomaaKSpanTolerates1
import Derived.Test.YtningpmoojnomaaKSpanTolerates2
import Derived.Test.YtningpmoojnomaaKSpanTolerates3
import Derived.Test.YtningpmoojnomaaKSpanTolerates4
import Derived.Test.YtningpmoojnomaaKSpanTolerates5
import Derived.Test.YtningpmoojnomaaKSpanTolerates6
import Derived.Test.YtningpmoojnomaaKSpanTolerates7
section
namespace Go.Proofs.Ytningpmoojnomaa.Pr
open Go.RowKit Go.Proofs.YtningpmoojnomaaW.PrintWords Go.Proofs.YtningpmoojnomaaW.PrintLast Go.Proofs.YtningpmoojnomaaW.PrintMore
set_option linter.unusedVariables false
set_option linter.unusedSimpArgs false
def GoodL (l : List S32) : Prop := ∀ s ∈ l, -1099511627776 ≤ s.f0 ∧ s.f0 < s.f1 ∧ s.f1 ≤ 1099511627776
theorem goodL_asc : ∀ (l : List S32) (lo : Int), Asc lo l → -1099511627776 ≤ lo → GoodL l
  | [], _, _, _ => fun s hs => by cases hs
  | s :: t, lo, ⟨h1, h2, h3, h4⟩, hlo => fun x hx => by
    rcases List.mem_cons.1 hx with rfl | hx
    · exact ⟨by omega, h2, h3⟩
    · exact goodL_asc t _ h4 (by omega) x hx
theorem asc_pair : ∀ (l : List S32) (lo : Int), Asc lo l → l.Pairwise (fun a b => a.f1 < b.f0) ∧ ∀ s ∈ l, lo ≤ s.f0
  | [], _, _ => ⟨List.Pairwise.nil, fun s hs => by cases hs⟩
  | s :: t, lo, ⟨h1, h2, h3, h4⟩ => by
    obtain ⟨p, q⟩ := asc_pair t _ h4
    refine ⟨List.pairwise_cons.2 ⟨fun x hx => by have := q x hx; omega, p⟩, fun x hx => ?_⟩
    rcases List.mem_cons.1 hx with rfl | hx
    · exact h1
    · have := q x hx; omega
theorem pairwise_of_asc {l : List S32} {lo : Int} (h : Asc lo l) (hlo : -1099511627776 ≤ lo) : l.Pairwise (fun a b => a.f0 ≤ b.f0) := by
  have hg := goodL_asc l lo h hlo
  have hp := (asc_pair l lo h).1
  refine hp.imp_of_mem (fun {a b} ha hb hab => ?_)
  have := hg a ha
  omega
theorem gen_len (p : Int → Bool) : ∀ (E : List Int) (cur : Option S32), (gen p E cur).length ≤ E.length + cur.toList.length
  | [], cur => by simp [gen]
  | [e], cur => by simp [gen]
  | e :: e' :: t, none => by
    rw [gen]
    by_cases h : p e = true
    · rw [if_pos h]; have := gen_len p (e' :: t) (some ⟨e, e'⟩); simp at *; omega
    · rw [if_neg h]; have := gen_len p (e' :: t) none; simp at *; omega
  | e :: e' :: t, some c => by
    rw [gen]
    by_cases h : p e = true
    · rw [if_pos h]
      by_cases h2 : c.f1 = e
      · rw [if_pos h2]; have := gen_len p (e' :: t) (some ⟨c.f0, e'⟩); simp at *; omega
      · rw [if_neg h2]; have := gen_len p (e' :: t) (some ⟨e, e'⟩); simp at *; omega
    · rw [if_neg h]; have := gen_len p (e' :: t) (some c); simp at *; omega
theorem madeL_len (kind : Int) (a b : List S32) : (madeL kind a b).length ≤ 2 * a.length + 2 * b.length := by
  obtain ⟨p1, m1, n1⟩ := endsL_spec a [] List.Pairwise.nil
  obtain ⟨p2, m2, n2⟩ := endsL_spec b _ p1
  have := gen_len (keepP kind a b) (ends2 a b) none
  unfold madeL
  unfold ends2 at *
  simp at *
  omega
theorem good_at' {l : List S32} (hg : GoodL l) {i : Nat} (hi : i < l.length) : -1099511627776 ≤ (l.getD i z32).f0 ∧ (l.getD i z32).f0 < (l.getD i z32).f1 ∧ (l.getD i z32).f1 ≤ 1099511627776 := by
  refine hg _ ?_
  rw [List.getD_eq_getElem?_getD, List.getElem?_eq_getElem hi]
  exact List.getElem_mem hi
def gS (r : Int) (s : S32) : S32 := ⟨max (-1099511627776) (s.f0 - r), min 1099511627776 (s.f1 + r)⟩
theorem gS_good {r : Int} {l : List S32} (h : GoodL l) (hr : 0 ≤ r) : GoodL (l.map (gS r)) := fun s hs => by
  obtain ⟨x, hx, rfl⟩ := List.mem_map.1 hs
  have := h x hx
  simp only [gS]
  omega
def growL (r : Int) (l : List S32) : List S32 := madeL 0 (l.map (gS r)) []
theorem refGrown_loop (l : List S32) (r : Int) (hl : l.length ≤ 1000) (hg : GoodL l) (h0 : 0 ≤ r) (h1 : r ≤ 1099511627776) : ∀ (d i : Nat), l.length - i = d → i ≤ l.length →
    Ev (fun k => kimberliteref01_grown.l0 k l r ((l.take i).map (gS r)) (i : Int)) (growL r l)
  | 0, i, h, hi' => by
    rw [List.take_of_length_le (by omega)]
    refine Ev.step (f := fun k => (kimberliteref01_Made.f k 0 (l.map (gS r)) []).bind fun t237 => some t237) (fun k => by simp only [kimberliteref01_grown.l0]; rw [if_neg (by omega)]) ?_
    exact Ev.bind (made_ev 0 _ [] (by simpa using hl) (by simp)) (Ev.now _)
  | d + 1, i, h, hi' => by
    have hi : i < l.length := by omega
    have := refGrown_loop l r hl hg h0 h1 d (i + 1) (by omega) (by omega)
    have hx := good_at' hg hi
    rw [show (l.take (i + 1)).map (gS r) = (l.take i).map (gS r) ++ [gS r (l.getD i z32)] by
      rw [List.take_succ_eq_append_getElem hi, List.map_append]
      simp [List.getD_eq_getElem?_getD, List.getElem?_eq_getElem hi]] at this
    refine Ev.step (fun k => ?_) this
    simp only [kimberliteref01_grown.l0]
    rw [if_pos (by omega), if_pos (by omega), if_pos (by simp; omega), rd_nat, wrap_succ hi (by omega)]
    rw [show (⟨mx (-1099511627776) (wrap64 ((l.getD i z32).f0 - r)), mn 1099511627776 (wrap64 ((l.getD i z32).f1 + r))⟩ : S32) = gS r (l.getD i z32) by
      rw [mx_eq, mn_eq]; unfold wrap64 gS; congr 2 <;> omega]
theorem refGrown_ev (l : List S32) (r : Int) (hl : l.length ≤ 1000) (hg : GoodL l) (h0 : 0 ≤ r) (h1 : r ≤ 1099511627776) : Ev (fun k => kimberliteref01_grown.f k l r) (growL r l) := by
  have := refGrown_loop l r hl hg h0 h1 _ 0 rfl (by omega)
  simpa [kimberliteref01_grown.f] using this
def growR (l : List S32) (r : Int) : List S32 × Int := if validS l = true ∧ 0 ≤ r ∧ r ≤ 1099511627776 then (growL r l, 0) else ([], 2)
theorem valid_good {l : List S32} (h : validS l = true) : l.length ≤ 128 ∧ GoodL l := ⟨(asc_valid h).1, goodL_asc l _ (asc_valid h).2 (Int.le_refl _)⟩
theorem growL_spec {l : List S32} (hg : GoodL l) {r : Int} (h0 : 0 ≤ r) : Asc (-1099511627776) (growL r l) ∧ ∀ x, memS (growL r l) x = memS (l.map (gS r)) x := by
  obtain ⟨ha, hm⟩ := made_spec 0 (l.map (gS r)) [] (fun s hs => by
    rcases hs with hs | hs
    · exact gS_good hg h0 s hs
    · cases hs)
  exact ⟨ha, fun x => by rw [growL, hm x, memS_nil]; simp [keepsB]⟩
theorem jn_grow {l : List S32} (h : validS l = true) {r : Int} (h0 : 0 ≤ r) : jn (l.map (gS r)) none = growL r l := by
  obtain ⟨hl, hg⟩ := valid_good h
  have hp := pairwise_of_asc (asc_valid h).2 (Int.le_refl _)
  have hp' : (l.map (gS r)).Pairwise (fun a b => a.f0 ≤ b.f0) := by
    rw [List.pairwise_map]
    refine hp.imp (fun {a b} hab => ?_)
    simp only [gS]
    omega
  obtain ⟨ha, hm⟩ := jn_spec (l.map (gS r)) none (-1099511627776) hp' (gS_good hg h0) (fun c hc => by cases hc)
  obtain ⟨ha', hm'⟩ := growL_spec hg h0
  refine canon _ _ _ _ ha ha' (fun x => ?_)
  rw [hm x, hm' x]
  rfl
theorem growS_eq {l : List S32} (hg : GoodL l) {r : Int} (h0 : 0 ≤ r) (h1 : r ≤ 1099511627776) : l.map (growS r) = l.map (gS r) := by
  refine List.map_congr_left (fun s hs => ?_)
  have := hg s hs
  unfold growS
  rw [mx_eq, mn_eq]
  unfold wrap64 gS
  congr 1 <;> omega
theorem spanRadius_ev (l : List S32) (r : Int) (hn : l.length ≤ 9223372036854775807) : Ev (fun k => span_radius.f k l r) (decide (validS l = true ∧ 0 ≤ r ∧ r ≤ 1099511627776)) := by
  unfold span_radius.f
  refine Ev.bind (spanValid_ev l hn) ?_
  by_cases hv : validS l = true
  · simp only [hv, if_true, true_and]
    by_cases h0 : 0 ≤ r
    · simp only [if_pos h0, h0, true_and]
      exact Ev.now _
    · simp only [if_neg h0, h0, false_and, decide_false]
      exact Ev.now _
  · simp only [hv, if_false, false_and, decide_false]
    exact Ev.now _
theorem spanGrow_ev (l : List S32) (r : Int) (hn : l.length ≤ 9223372036854775807) : Ev (fun k => span_Grow.f k l r) (growR l r) := by
  unfold span_Grow.f growR
  refine Ev.bind (spanRadius_ev l r hn) ?_
  by_cases h : validS l = true ∧ 0 ≤ r ∧ r ≤ 1099511627776
  · obtain ⟨hl, hg⟩ := valid_good h.1
    simp only [decide_eq_true h, if_true, if_pos h, clone_f hl, Option.bind_some]
    have hj := joined_ev (l.map (growS r)) (by simp; omega)
    rw [growS_eq hg h.2.1 h.2.2, jn_grow h.1 h.2.1] at hj
    simp only [growS_eq hg h.2.1 h.2.2]
    exact Ev.bind hj (Ev.now _)
  · simp only [decide_eq_false h, if_neg h, Bool.false_eq_true, if_false]
    exact Ev.now _
theorem refGrow_ev (l : List S32) (r : Int) (hn : l.length ≤ 9223372036854775807) : Ev (fun k => kimberliteref01_Grow.f k l r) (growR l r) := by
  unfold kimberliteref01_Grow.f growR
  refine Ev.bind (refValid_ev l hn) ?_
  by_cases hv : validS l = true
  · obtain ⟨hl, hg⟩ := valid_good hv
    simp only [hv, if_true, true_and]
    by_cases h0 : r < 0
    · simp only [if_pos h0, if_neg (show ¬ (0 ≤ r ∧ r ≤ 1099511627776) by omega)]
      exact Ev.step (f := fun _ => some ([], 2)) (fun k => by simp only [kimberliteref01_Grow.j0]; simp) (Ev.now _)
    · simp only [if_neg h0]
      by_cases h1 : r ≤ 1099511627776
      · simp only [if_pos (show 0 ≤ r ∧ r ≤ 1099511627776 by omega), decide_eq_false (show ¬ r > 1099511627776 by omega)]
        refine Ev.step (f := fun k => (kimberliteref01_grown.f k l r).bind fun t241 => some (t241, 0)) (fun k => by simp only [kimberliteref01_Grow.j0]; simp) ?_
        exact Ev.bind (refGrown_ev l r (by omega) hg (by omega) h1) (Ev.now _)
      · simp only [if_neg (show ¬ (0 ≤ r ∧ r ≤ 1099511627776) by omega), decide_eq_true (show r > 1099511627776 by omega)]
        exact Ev.step (f := fun _ => some ([], 2)) (fun k => by simp only [kimberliteref01_Grow.j0]; simp) (Ev.now _)
  · simp only [hv, if_false, false_and]
    exact Ev.step (f := fun _ => some ([], 2)) (fun k => by simp only [kimberliteref01_Grow.j0]; simp) (Ev.now _)
def shLo (r : Int) (s : S32) : Int := if s.f0 > -1099511627776 then s.f0 + r else s.f0
def shHi (r : Int) (s : S32) : Int := if s.f1 < 1099511627776 then s.f1 - r else s.f1
def shS (r : Int) (s : S32) : Option S32 := if shLo r s < shHi r s then some ⟨shLo r s, shHi r s⟩ else none
def shrinkL (r : Int) (l : List S32) : List S32 := l.filterMap (shS r)
def shrinkR (l : List S32) (r : Int) : List S32 × Int := if validS l = true ∧ 0 ≤ r ∧ r ≤ 1099511627776 then (shrinkL r l, 0) else ([], 2)
theorem spanShrink_loop (l : List S32) (r : Int) (hl : l.length ≤ 1000) (hg : GoodL l) (h0 : 0 ≤ r) (h1 : r ≤ 1099511627776) : ∀ (d i : Nat) (out : List S32), l.length - i = d → i ≤ l.length → out.length ≤ i →
    Ev (fun k => span_Shrink.l0 k r out l (l.length : Int) (i : Int)) (out ++ shrinkL r (l.drop i), 0)
  | 0, i, out, h, hi', ho => by
    rw [List.drop_eq_nil_of_le (by omega)]
    exact Ev.step (f := fun _ => some (out ++ [], 0)) (fun k => by simp only [span_Shrink.l0]; rw [if_neg (by omega)]; simp) (Ev.now _)
  | d + 1, i, out, h, hi', ho => by
    have hi : i < l.length := by omega
    have hx := good_at' hg hi
    rw [drop_cons l i hi]
    generalize hs : l.getD i z32 = s at hx
    have e0 : wrap64 (s.f0 + r) = s.f0 + r := by unfold wrap64; omega
    have e1 : wrap64 (s.f1 - r) = s.f1 - r := by unfold wrap64; omega
    refine Ev.step (f := fun k => span_Shrink.j1 k r out l (l.length : Int) (i : Int) (shLo r s) s.f1) (fun k => ?_) ?_
    · simp only [span_Shrink.l0, shLo]
      rw [if_pos (by omega), if_pos (by omega), if_pos (by omega), rd_nat, hs, e0]
      by_cases hc : s.f0 > -1099511627776
      · rw [if_pos hc, if_pos hc]
      · rw [if_neg hc, if_neg hc]
    refine Ev.step (f := fun k => span_Shrink.j2 k r out l (l.length : Int) (i : Int) (shLo r s) (shHi r s)) (fun k => ?_) ?_
    · simp only [span_Shrink.j1, shHi]
      rw [e1]
      by_cases hc : s.f1 < 1099511627776
      · rw [if_pos hc, if_pos hc]
      · rw [if_neg hc, if_neg hc]
    unfold shrinkL
    rw [List.filterMap_cons, shS]
    by_cases hc : shLo r s < shHi r s
    · rw [if_pos hc]
      have := spanShrink_loop l r hl hg h0 h1 d (i + 1) (out ++ [⟨shLo r s, shHi r s⟩]) (by omega) (by omega) (by simp; omega)
      rw [List.append_assoc, List.singleton_append] at this
      refine Ev.step (fun k => ?_) this
      simp only [span_Shrink.j2]
      rw [if_pos hc, if_pos (by omega), wrap_succ hi (by omega)]
    · rw [if_neg hc]
      have := spanShrink_loop l r hl hg h0 h1 d (i + 1) out (by omega) (by omega) (by omega)
      refine Ev.step (fun k => ?_) this
      simp only [span_Shrink.j2]
      rw [if_neg hc, wrap_succ hi (by omega)]
theorem spanShrink_ev (l : List S32) (r : Int) (hn : l.length ≤ 9223372036854775807) : Ev (fun k => span_Shrink.f k l r) (shrinkR l r) := by
  unfold span_Shrink.f shrinkR
  refine Ev.bind (spanRadius_ev l r hn) ?_
  by_cases h : validS l = true ∧ 0 ≤ r ∧ r ≤ 1099511627776
  · obtain ⟨hl, hg⟩ := valid_good h.1
    simp only [decide_eq_true h, if_true, if_pos h]
    have := spanShrink_loop l r (by omega) hg h.2.1 h.2.2 _ 0 [] rfl (by omega) (by simp)
    simpa using this
  · simp only [decide_eq_false h, if_neg h, Bool.false_eq_true, if_false]
    exact Ev.now _
theorem shrink_asc (r : Int) (h0 : 0 ≤ r) : ∀ (l : List S32) (lo : Int), Asc lo l → -1099511627776 ≤ lo → Asc lo (shrinkL r l)
  | [], _, _, _ => trivial
  | s :: t, lo, ⟨h1, h2, h3, h4⟩, hlo => by
    have ih := shrink_asc r h0 t _ h4 (by omega)
    unfold shrinkL at ih ⊢
    have b0 : s.f0 ≤ shLo r s := by unfold shLo; by_cases hc : s.f0 > -1099511627776 <;> simp [hc] <;> omega
    have b1 : shHi r s ≤ s.f1 := by unfold shHi; by_cases hc : s.f1 < 1099511627776 <;> simp [hc] <;> omega
    rw [List.filterMap_cons, shS]
    by_cases hc : shLo r s < shHi r s
    · rw [if_pos hc]
      exact ⟨by simp only; omega, hc, by simp only; omega, asc_mono _ _ _ (by simp only; omega) ih⟩
    · rw [if_neg hc]
      exact asc_mono _ _ _ (by omega) ih
theorem pair_or {R : S32 → S32 → Prop} : ∀ {l : List S32}, l.Pairwise R → ∀ a ∈ l, ∀ b ∈ l, a = b ∨ R a b ∨ R b a
  | [], _, a, ha, _, _ => by cases ha
  | s :: t, h, a, ha, b, hb => by
    rw [List.pairwise_cons] at h
    rcases List.mem_cons.1 ha with rfl | ha'
    · rcases List.mem_cons.1 hb with rfl | hb'
      · exact .inl rfl
      · exact .inr (.inl (h.1 b hb'))
    · rcases List.mem_cons.1 hb with rfl | hb'
      · exact .inr (.inr (h.1 a ha'))
      · exact pair_or h.2 a ha' b hb'
/-- WHAT IS IN A SHRUNKEN SET: all neighbours are in the set. -/
theorem shrink_mem {l : List S32} (ha : Asc (-1099511627776) l) {r : Int} (h0 : 0 ≤ r) (x : Int) :
    memS (shrinkL r l) x = true ↔ (-1099511627776 ≤ x ∧ x < 1099511627776 ∧ ∀ y, -1099511627776 ≤ y → y < 1099511627776 → x - r ≤ y → y ≤ x + r → memS l y = true) := by
  have hg := goodL_asc l _ ha (Int.le_refl _)
  have hp := (asc_pair l _ ha).1
  constructor
  · intro h
    obtain ⟨s', hs', h1, h2⟩ := (memS_iff _ _).1 h
    obtain ⟨s, hs, he⟩ := List.mem_filterMap.1 hs'
    have g := hg s hs
    unfold shS at he
    by_cases hc : shLo r s < shHi r s
    · rw [if_pos hc] at he
      injection he with he
      subst he
      simp only at h1 h2
      unfold shLo at h1
      unfold shHi at h2
      refine ⟨?_, ?_, fun y y1 y2 y3 y4 => (memS_iff _ _).2 ⟨s, hs, ?_, ?_⟩⟩
      · split at h1 <;> omega
      · split at h2 <;> omega
      · split at h1 <;> omega
      · split at h2 <;> omega
    · rw [if_neg hc] at he
      cases he
  · rintro ⟨x1, x2, hy⟩
    obtain ⟨s, hs, m1, m2⟩ := (memS_iff _ _).1 (hy x x1 x2 (by omega) (by omega))
    have g := hg s hs
    -- no other span touches this one
    have hlo : shLo r s ≤ x := by
      unfold shLo
      by_cases hc : s.f0 > -1099511627776
      · rw [if_pos hc]
        refine Int.not_lt.1 fun hlt => ?_
        obtain ⟨s', hs', n1, n2⟩ := (memS_iff _ _).1 (hy (s.f0 - 1) (by omega) (by omega) (by omega) (by omega))
        have g' := hg s' hs'
        rcases pair_or hp s' hs' s hs with rfl | h | h <;> omega
      · rw [if_neg hc]; exact m1
    have hhi : x < shHi r s := by
      unfold shHi
      by_cases hc : s.f1 < 1099511627776
      · rw [if_pos hc]
        refine Int.not_le.1 fun hle => ?_
        obtain ⟨s', hs', n1, n2⟩ := (memS_iff _ _).1 (hy s.f1 (by omega) (by omega) (by omega) (by omega))
        have g' := hg s' hs'
        rcases pair_or hp s' hs' s hs with rfl | h | h <;> omega
      · rw [if_neg hc]; exact m2
    refine (memS_iff _ _).2 ⟨⟨shLo r s, shHi r s⟩, List.mem_filterMap.2 ⟨s, hs, ?_⟩, hlo, hhi⟩
    unfold shS
    rw [if_pos (by omega)]
/-- What is in a grown set: a neighbour is in the set. -/
theorem grow_mem {l : List S32} (hg : GoodL l) {r : Int} (h0 : 0 ≤ r) (x : Int) :
    memS (l.map (gS r)) x = true ↔ (-1099511627776 ≤ x ∧ x < 1099511627776 ∧ ∃ y, x - r ≤ y ∧ y ≤ x + r ∧ memS l y = true) := by
  constructor
  · intro h
    obtain ⟨s', hs', h1, h2⟩ := (memS_iff _ _).1 h
    obtain ⟨s, hs, rfl⟩ := List.mem_map.1 hs'
    have g := hg s hs
    simp only [gS] at h1 h2
    refine ⟨by omega, by omega, max s.f0 (min x (s.f1 - 1)), by omega, by omega, (memS_iff _ _).2 ⟨s, hs, by omega, by omega⟩⟩
  · rintro ⟨x1, x2, y, y1, y2, hy⟩
    obtain ⟨s, hs, m1, m2⟩ := (memS_iff _ _).1 hy
    have g := hg s hs
    refine (memS_iff _ _).2 ⟨gS r s, List.mem_map_of_mem hs, ?_, ?_⟩
    · simp only [gS]; omega
    · simp only [gS]; omega
def whole : List S32 := [⟨-1099511627776, 1099511627776⟩]
theorem whole_mem (x : Int) : memS whole x = true ↔ -1099511627776 ≤ x ∧ x < 1099511627776 := by
  unfold memS whole
  simp only [List.any_cons, List.any_nil, Bool.or_false, hasS_iff]
theorem whole_good : GoodL whole := fun s hs => by
  simp only [whole, List.mem_singleton] at hs
  subst hs
  decide
theorem good_two {a b : List S32} (ha : GoodL a) (hb : GoodL b) : ∀ s, s ∈ a ∨ s ∈ b → -1099511627776 ≤ s.f0 ∧ s.f0 < s.f1 ∧ s.f1 ≤ 1099511627776 := fun s hs => hs.elim (ha s) (hb s)
def notL (l : List S32) : List S32 := madeL 2 whole l
theorem notL_spec {l : List S32} (hg : GoodL l) : Asc (-1099511627776) (notL l) ∧ ∀ x, memS (notL l) x = true ↔ (-1099511627776 ≤ x ∧ x < 1099511627776 ∧ memS l x = false) := by
  obtain ⟨ha, hm⟩ := made_spec 2 whole l (good_two whole_good hg)
  refine ⟨ha, fun x => ?_⟩
  rw [notL, hm x]
  simp only [keepsB]
  have := whole_mem x
  cases hw : memS whole x <;> cases hl : memS l x <;> simp [hw] at this ⊢ <;> omega
def shrinkRef (r : Int) (l : List S32) : List S32 := notL (growL r (notL l))
theorem shrink_eq {l : List S32} (ha : Asc (-1099511627776) l) {r : Int} (h0 : 0 ≤ r) : shrinkRef r l = shrinkL r l := by
  have hg := goodL_asc l _ ha (Int.le_refl _)
  obtain ⟨a1, m1⟩ := notL_spec hg
  have g1 := goodL_asc _ _ a1 (Int.le_refl _)
  obtain ⟨a2, m2⟩ := growL_spec g1 h0
  have g2 := goodL_asc _ _ a2 (Int.le_refl _)
  obtain ⟨a3, m3⟩ := notL_spec g2
  refine canon _ _ _ _ a3 (shrink_asc r h0 l _ ha (Int.le_refl _)) (fun x => ?_)
  rw [Bool.eq_iff_iff]
  show memS (notL (growL r (notL l))) x = true ↔ _
  rw [m3 x, shrink_mem ha h0 x, m2 x, ← Bool.not_eq_true, grow_mem g1 h0 x]
  constructor
  · rintro ⟨x1, x2, hn⟩
    refine ⟨x1, x2, fun y y1 y2 y3 y4 => ?_⟩
    refine Decidable.byContradiction fun hy => hn ⟨x1, x2, y, y3, y4, (m1 y).2 ⟨y1, y2, by simpa using hy⟩⟩
  · rintro ⟨x1, x2, hall⟩
    refine ⟨x1, x2, ?_⟩
    rintro ⟨_, _, y, y1, y2, hy⟩
    obtain ⟨b1, b2, b3⟩ := (m1 y).1 hy
    rw [hall y b1 b2 y1 y2] at b3
    cases b3
theorem refShrink_ev (l : List S32) (r : Int) (hn : l.length ≤ 9223372036854775807) : Ev (fun k => kimberliteref01_Shrink.f k l r) (shrinkR l r) := by
  unfold kimberliteref01_Shrink.f shrinkR
  refine Ev.bind (refValid_ev l hn) ?_
  by_cases hv : validS l = true
  · obtain ⟨hl, hg⟩ := valid_good hv
    simp only [hv, if_true, true_and]
    by_cases h0 : r < 0
    · simp only [if_pos h0, if_neg (show ¬ (0 ≤ r ∧ r ≤ 1099511627776) by omega)]
      exact Ev.step (f := fun _ => some ([], 2)) (fun k => by simp only [kimberliteref01_Shrink.j0]; simp) (Ev.now _)
    · simp only [if_neg h0]
      by_cases h1 : r ≤ 1099511627776
      · simp only [if_pos (show 0 ≤ r ∧ r ≤ 1099511627776 by omega), decide_eq_false (show ¬ r > 1099511627776 by omega)]
        rw [← shrink_eq (asc_valid hv).2 (show 0 ≤ r by omega)]
        refine Ev.step (f := fun k => (kimberliteref01_Made.f k 2 whole l).bind fun t250 => (kimberliteref01_grown.f k t250 r).bind fun t253 => (kimberliteref01_Made.f k 2 whole t253).bind fun t256 => some (t256, 0)) (fun k => by simp only [kimberliteref01_Shrink.j0, kimberliteref01_Whole.f, whole]; simp) ?_
        have hw : whole.length = 1 := rfl
        have n1 := madeL_len 2 whole l
        have a1 := notL_spec hg
        have g1 := goodL_asc _ _ a1.1 (Int.le_refl _)
        have n2 := madeL_len 0 ((notL l).map (gS r)) []
        rw [List.length_map] at n2
        refine Ev.bind (made_ev 2 whole l (by omega) (by omega)) ?_
        refine Ev.bind (refGrown_ev (notL l) r (by unfold notL; omega) g1 (by omega) h1) ?_
        refine Ev.bind (made_ev 2 whole (growL r (notL l)) (by omega) (by unfold growL; unfold notL at n2 ⊢; simp at n2; omega)) ?_
        exact Ev.now _
      · simp only [if_neg (show ¬ (0 ≤ r ∧ r ≤ 1099511627776) by omega), decide_eq_true (show r > 1099511627776 by omega)]
        exact Ev.step (f := fun _ => some ([], 2)) (fun k => by simp only [kimberliteref01_Shrink.j0]; simp) (Ev.now _)
  · simp only [hv, if_false, false_and]
    exact Ev.step (f := fun _ => some ([], 2)) (fun k => by simp only [kimberliteref01_Shrink.j0]; simp) (Ev.now _)
end Go.Proofs.Ytningpmoojnomaa.Pr
end
section
namespace Go.Proofs.Ytningpmoojnomaa.Pr
open Go.RowKit Go.ChangeShapes Go.WideShapes Go.Deep Go.Joins Go.Proofs.YtningpmoojnomaaW.PrintWords Go.Proofs.YtningpmoojnomaaW.PrintLast Go.Proofs.YtningpmoojnomaaW.PrintMore
set_option linter.unusedVariables false
set_option linter.unusedSimpArgs false
section
variable {H : Type} {enc : TypeId × Value → H} {W : World}
/-- Both numbers of a span are int64s. -/
def okS (x : S32) : Prop := (Lit.int .i64 x.f0).wf = true ∧ (Lit.int .i64 x.f1).wf = true
set_option maxRecDepth 100000 in
theorem open_spans {a : Option Addr} {len cap : Nat} {d : DataW H} {p : List MemPlace} (h : DataW.Trod enc Try.prog W 0 (fun _ => true) true 22 (.slice a len cap) d p) :
    ∃ l : List S32, l.length = len ∧ l.length ≤ cap ∧ Kd.C k32 W a l.length l ∧ ∀ x ∈ l, okS x := by
  obtain ⟨fuel, hf⟩ := h
  rcases open_slice Try.underlying22 hf with ⟨hcs, _⟩ | ⟨ad, len', cap', m, n, D, Pl, hcs, _, hl, hm, hmm, _, hi⟩
  · simp [Value.cells] at hcs
    obtain ⟨rfl, rfl, rfl⟩ := hcs
    exact ⟨[], rfl, by simp, ⟨rfl, by simp, fun h => absurd h (by simp)⟩, fun x hx => absurd hx (by simp)⟩
  · simp [Value.cells] at hcs
    obtain ⟨rfl, rfl, rfl⟩ := hcs
    have hC : Try.prog.cellsOf 32 = 2 := by kernel_rfl
    have key : ∀ i, i < len → ∃ x : S32, okS x ∧ W.cell? (ad.add (i * 2)) = some (.int .i64 x.f0) ∧ W.cell? (ad.add (i * 2 + 1)) = some (.int .i64 x.f1) := by
      intro i hil
      obtain ⟨cs', hc, ht'⟩ := hi i (by rw [hmm]; simp; omega)
      rw [hC] at hc
      obtain ⟨ys, n', hn', hy, hlen, hyl, hfd⟩ := DataW.trod_struct Try.underlying32 ht'
      obtain ⟨_, hcl, hat⟩ := World.cells?_some hc
      match cs', hcl with
      | [c0, c1], _ =>
        have k3 : Try.prog.cellsOf 3 = 1 := by kernel_rfl
        obtain ⟨y0, hy0⟩ : ∃ y, ys[0]? = some y := ⟨_, List.getElem?_eq_getElem (by rw [hyl]; decide)⟩
        obtain ⟨y1, hy1⟩ : ∃ y, ys[1]? = some y := ⟨_, List.getElem?_eq_getElem (by rw [hyl]; decide)⟩
        have g0 := hfd 0 _ rfl
        have g1 := hfd 1 _ rfl
        dsimp only [List.getElem_toArray, List.getElem_cons_zero, List.getElem_cons_succ] at g0 g1
        rw [k3, hy0] at g0
        rw [k3, hy1] at g1
        simp only [List.drop_zero, List.drop_succ_cons, List.take_succ_cons, List.take_zero] at g0 g1
        obtain ⟨a0, e0, _, w0⟩ := DataW.trod_int Try.underlying3 g0
        obtain ⟨a1, e1, _, w1⟩ := DataW.trod_int Try.underlying3 g1
        simp at e0 e1
        subst e0 e1
        have h0 := hat 0 (by omega)
        have h1 := hat 1 (by omega)
        rw [Deep.add_add] at h0 h1
        exact ⟨⟨a0, a1⟩, ⟨w0, w1⟩, by simpa using h0, by simpa using h1⟩
    obtain ⟨f, hf⟩ := @choose_lt S32 ⟨z32⟩ _ _ key
    refine ⟨(List.range len).map f, by simp, by simpa using hl, ⟨by simp, by simp; simp only [maxLen] at hm; omega, fun _ => ⟨ad, rfl, fun j x hj => ?_⟩⟩, ?_⟩
    · obtain ⟨hjl, hx⟩ := List.getElem?_eq_some_iff.1 hj
      have hjl' : j < len := by simpa using hjl
      simp at hx
      subst hx
      obtain ⟨_, h0, h1⟩ := hf j hjl'
      refine ⟨_, rfl, k32_mk W (f j), fun i u hu => ?_⟩
      match i, hu with
      | 0, hu => simp at hu; subst hu; exact h0
      | 1, hu => simp at hu; subst hu; exact h1
      | i + 2, hu => simp at hu
    · intro x hx
      obtain ⟨j, hj, rfl⟩ := List.mem_map.1 hx
      exact (hf j (by simpa using hj)).1
end
end Go.Proofs.Ytningpmoojnomaa.Pr
end
section
namespace Go.Proofs.Ytningpmoojnomaa.Pr
open Go.RowKit Go.Proofs.YtningpmoojnomaaW.PrintWords Go.Proofs.YtningpmoojnomaaW.PrintLast Go.Proofs.YtningpmoojnomaaW.PrintMore
set_option linter.unusedVariables false
set_option linter.unusedSimpArgs false
set_option maxHeartbeats 8000000 in
set_option maxRecDepth 100000 in
theorem SpanTolerates_walk {W : World} (a0 : Option Addr) (cap0 : Nat) (l0 : List S32) (c0 : l0.length ≤ cap0) (hr0 : Kd.C k32 W a0 l0.length l0) (w0 : ∀ s ∈ l0, okS s) (x1 : Int) (w1 : (Lit.int .i64 x1).wf = true) :
    Calls Try.prog 7 #[.slice a0 l0.length cap0, .int .i64 x1] W fun e w' => e = .returned (.bool true) ∧ Below W.heap.size W w' := by
  have hm : l0.length ≤ 9223372036854775807 := hr0.2.1
  have HR0 := Aside0.mk hr0
  have HC0 := Aside0.mk c0
  clear hr0 c0 w0 w1
  by_cases h140 : l0.length ≤ 140
  · have HF := Aside0.mk (show decide ((l0.length : Int) ≤ 140) = true from decide_eq_true (by omega))
    have HL := Aside0.mk h140
    obtain ⟨k1, h1⟩ := (spanGrow_ev l0 x1 hm).rounds
    obtain ⟨k2, h2⟩ := (refGrow_ev l0 x1 hm).rounds
    obtain ⟨k3, h3⟩ := (spanShrink_ev l0 x1 hm).rounds
    obtain ⟨k4, h4⟩ := (refShrink_ev l0 x1 hm).rounds
    generalize hq : growR l0 x1 = q at h1 h2
    obtain ⟨q1, q2⟩ := q
    generalize hz : shrinkR l0 x1 = z at h3 h4
    obtain ⟨z1, z2⟩ := z
    have H1 := Aside0.mk h1
    have H2 := Aside0.mk h2
    have H3 := Aside0.mk h3
    have H4 := Aside0.mk h4
    clear hm h140 h1 h2 h3 h4 hq hz
    go_enter Try.func7, Try.ntmps7
    go_wp2_with (go_at_call 15; with_reducible refine (few_at _ _ l0 _ HR0.out HC0.out true HF.out).mono ?_; rintro e w1 ⟨rfl, hb1⟩)
    have HB := Aside0.mk hb1.below
    clear hb1
    go_wp2_with (go_at_call 17; with_reducible refine (own_full _ _ l0 _ (Kd.C_below HR0.out HB.out) HL.out).mono ?_; rintro e w2 ⟨b, c, rfl, hf2, hb2⟩)
    have HB2 := Aside0.mk (below_then HB.out HB.out.size hb2)
    have HF2 := Aside0.mk hf2
    clear hb2 hf2 HB
    go_wp2_with (go_at_call 38; with_reducible refine (span_Grow.calls k1 _ _ l0 _ q1 q2 _ HF2.out.reads (Nat.le_of_succ_le HF2.out.cap) H1.out).mono ?_; rintro e w3 ⟨v3, rfl, hr3, hb3⟩; obtain ⟨A3, c3, e3⟩ := Kd.R_slice hr3; subst e3)
    have HB3 := Aside0.mk hb3
    have HB03 := Aside0.mk (below_then HB2.out HB2.out.size hb3)
    have HR3 := Aside0.mk hr3
    clear hb3 hr3
    go_wp2_with (go_at_call 39; with_reducible refine (kimberliteref01_Grow.calls k2 _ _ l0 _ q1 q2 _ (Kd.C_below HR0.out HB03.out) HC0.out H2.out).mono ?_; rintro e w4 ⟨v4, rfl, hr4, hb4⟩; obtain ⟨A4, c4, e4⟩ := Kd.R_slice hr4; subst e4)
    have HB4 := Aside0.mk (below_then HB3.out HB3.out.size hb4)
    have HR34 := Aside0.mk (Kd.R_below HR3.out hb4)
    have HR4 := Aside0.mk (Kd.R_reads' hr4).2
    clear hb4 hr4 HB3 HR3 HB03
    go_wp2_with (go_at_call 20; with_reducible refine (same_at _ _ _ _ q1 _ (Kd.R_reads' HR34.out).2.2 (Kd.R_reads' HR34.out).2.1 HR4.out.2 HR4.out.1).mono ?_; rintro e w5 ⟨rfl, hb5⟩)
    have HB5 := Aside0.mk (below_then HB4.out HB4.out.size hb5.below)
    have HR5 := Aside0.mk (Kd.R_below HR34.out hb5.below)
    clear hb5 HB4 HR34
    go_wp2_with (go_at_call 22; with_reducible refine (spoil_any _ q1 w2 _ HB5.out HR5.out).mono ?_; rintro e w6 ⟨rfl, hb6⟩)
    have HB6 := Aside0.mk hb6
    have HB06 := Aside0.mk (below_then HB2.out HB2.out.size hb6)
    have HF6 := Aside0.mk (HF2.out.below hb6)
    clear hb6 HB5 HR5 HR4
    go_wp2_with (go_at_call 40; with_reducible refine (span_Shrink.calls k3 _ _ l0 _ z1 z2 _ HF6.out.reads (Nat.le_of_succ_le HF6.out.cap) H3.out).mono ?_; rintro e w7 ⟨v7, rfl, hr7, hb7⟩; obtain ⟨A7, c7, e7⟩ := Kd.R_slice hr7; subst e7)
    have HB7 := Aside0.mk hb7
    have HB07 := Aside0.mk (below_then HB06.out HB06.out.size hb7)
    have HR7 := Aside0.mk hr7
    clear hb7 hr7
    go_wp2_with (go_at_call 41; with_reducible refine (kimberliteref01_Shrink.calls k4 _ _ l0 _ z1 z2 _ (Kd.C_below HR0.out HB07.out) HC0.out H4.out).mono ?_; rintro e w8 ⟨v8, rfl, hr8, hb8⟩; obtain ⟨A8, c8, e8⟩ := Kd.R_slice hr8; subst e8)
    have HB8 := Aside0.mk (below_then HB7.out HB7.out.size hb8)
    have HR78 := Aside0.mk (Kd.R_below HR7.out hb8)
    have HR8 := Aside0.mk (Kd.R_reads' hr8).2
    clear hb8 hr8 HB7 HR7 HB07
    go_wp2_with (go_at_call 20; with_reducible refine (same_at _ _ _ _ z1 _ (Kd.R_reads' HR78.out).2.2 (Kd.R_reads' HR78.out).2.1 HR8.out.2 HR8.out.1).mono ?_; rintro e w9 ⟨rfl, hb9⟩)
    have HB9 := Aside0.mk (below_then HB8.out HB8.out.size hb9.below)
    have HR9 := Aside0.mk (Kd.R_below HR78.out hb9.below)
    clear hb9 HB8 HR78
    go_wp2_with (go_at_call 22; with_reducible refine (spoil_any _ z1 w6 _ HB9.out HR9.out).mono ?_; rintro e w10 ⟨rfl, hb10⟩)
    have HB10 := Aside0.mk (below_then HB06.out HB06.out.size hb10)
    have HF10 := Aside0.mk (HF6.out.below hb10)
    clear hb10
    go_wp2_with (go_at_call 21; with_reducible refine (kept_full _ _ _ _ _ l0 _ HF10.out (Kd.C_below HR0.out HB10.out) HC0.out HL.out).mono ?_; rintro e w11 ⟨rfl, hb11⟩)
    have HB11 := Aside0.mk (below_then HB10.out HB10.out.size hb11)
    clear hb11
    go_wp2_with (go_at_call 16; with_reducible refine (alive_at _).mono ?_; rintro e w12 ⟨rfl, hb12⟩)
    go_ret
    exact ⟨rfl, below_then HB11.out HB11.out.size hb12⟩
  · have HF := Aside0.mk (show decide ((l0.length : Int) ≤ 140) = false from decide_eq_false (by omega))
    clear h140
    go_enter Try.func7, Try.ntmps7
    go_wp2_with (go_at_call 15; with_reducible refine (few_at _ _ l0 _ HR0.out HC0.out false HF.out).mono ?_; rintro e w1 ⟨rfl, hb1⟩)
    go_wp2_with (go_at_call 16; with_reducible refine (alive_at _).mono ?_; rintro e w2 ⟨rfl, hb2⟩)
    go_ret
    exact ⟨rfl, below_then hb1.below hb1.below.size hb2⟩
end Go.Proofs.Ytningpmoojnomaa.Pr
end
section
namespace Go.Proofs.Ytningpmoojnomaa.spanTolerates
open Go.ChangeShapes Go.WideShapes Go.ChangeAt Go.RowKit Go.Proofs.Ytningpmoojnomaa.Pr
set_option linter.unusedVariables false
theorem own : ownKnob Try.prog.godebug = none := by kernel_rfl
theorem laidOut : laidOutB Try.prog = true := by kernel_rfl
set_option maxRecDepth 100000 in
theorem lifted (os : Os) (started : os.Started) (H : Type) (enc : TypeId × Value → H) :
    ReturnsInHanded {} Try.checked os 7 .any (Rows.spanToleratesSpec.pre6 enc Try.prog Try.f7 Rows.spanToleratesRow.domain false) (Rows.spanToleratesSpec.post enc Try.prog Try.f7 false true false false) := by
  refine returnsInHanded_of_change (C := Try.checked) own started (by kernel_rfl) Try.func7
    (ChangeSpec.witness6 (enc := enc) (C := Try.checked) false ⟨#[], #[.slice none 0 0, .int .i64 0], []⟩ 8 (by kernel_rfl) (by kernel_rfl) (by kernel_rfl) (by kernel_rfl)) ?_
  intro W base args ds gs before hval0 hW hcnd _
  have hval : ∀ (j : Nat) t v, Try.f7.params[j]? = some t → args[j]? = some v → Value.okWide Try.prog W .any base t v := hval0
  have hW' := hW
  obtain ⟨p, q, hA0, hV, rfl, hfz, hnd⟩ := hW
  have hA : DataW.TrodAll enc Try.prog W 0 (fun _ => true) true Try.f7.params.toList args.toList ds p := hA0
  rw [Try.params7] at hA hval
  obtain ⟨v0, vs0, d0, ds0, p0, q0, hargs, rfl, rfl, h0, r0⟩ := trodAll_cons hA
  obtain ⟨v1, vs1, d1, ds1, p1, q1, rfl, rfl, rfl, h1, r1⟩ := trodAll_cons r0
  obtain ⟨rfl, rfl, rfl⟩ := trodAll_nil r1
  obtain rfl : args = #[v0, v1] := by cases args; simp_all
  obtain ⟨rfl, rfl⟩ := trodVars_none hV
  have k0 := h0
  have lt0 : ∀ x ∈ p0, x.block < W.heap.size := by obtain ⟨m, hm⟩ := k0; exact DataW.trod_lt m _ _ _ hm
  obtain ⟨a0, len0, cap0, rfl⟩ := okWide_slice Try.underlying22 (hval 0 22 v0 rfl rfl)
  obtain ⟨l0, rfl, c0, hr0, w0⟩ := open_spans h0
  obtain ⟨a1, rfl, rfl, rfl, w1⟩ := open_int Try.underlying3 (hval 1 3 v1 rfl rfl) h1
  clear hA0 hval0
  try simp only [List.append_nil] at hW'
  refine (SpanTolerates_walk a0 cap0 l0 c0 hr0 w0 a1 w1).mono fun e W' ⟨he, bel⟩ => ?_
  subst he
  exact ⟨_, rfl, _, _, _, [], _, [], hW', trodAll_mk1 (shut_bool Try.underlying4 _), (trodAll_cons_mk (Below.trod laidOut (by kernel_rfl) (of_decide_eq_true (by kernel_rfl)) k0 bel lt0) (trodAll_cons_mk (shut_int Try.underlying3 w1) trodAll_mk0)), rfl, bel.frame _, fun h => by cases h⟩
theorem over : Rows.spanToleratesRow.holds Try.pinned (OpenSpec.ofChange Rows.spanToleratesSpec) :=
  OpenClaim.holds_of_wide 7 Try.f7 rfl rfl rfl rfl rfl rfl rfl ⟨rfl, rfl, rfl, rfl, rfl⟩ rfl rfl rfl rfl rfl (by kernel_rfl) Try.func7 (by kernel_rfl)
    (of_decide_eq_true (by kernel_rfl)) (by unfold Func.isWrapper; first | (rw [if_pos (by decide +kernel)]; kernel_rfl) | (rw [if_neg (by decide +kernel)]; exact ⟨rfl, rfl⟩))
    (fun os started H enc _ => lifted os started H enc)
theorem proved : Rows.SpanToleratesSaid := over
end Go.Proofs.Ytningpmoojnomaa.spanTolerates
namespace Go.Proofs.Ytningpmoojnomaa
/-- The row, under a short name, for the claim. -/
theorem spanTolerates_holds : Rows.SpanToleratesSaid := spanTolerates.proved
end Go.Proofs.Ytningpmoojnomaa
end
