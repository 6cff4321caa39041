/- What the proof of the law needs, trimmed and merged by wip/pack.py out of the texts YtingjpcgehgiiaaRsp. No condition. -/
import Derived.Test.YtingjpcgehgiiaaKCurveSplits0
import Derived.Test.YtingjpcgehgiiaaKCurveSplits1
import Derived.Test.YtingjpcgehgiiaaKCurveSplits2
import Derived.Test.YtingjpcgehgiiaaKCurveSplits3
import Derived.Test.YtingjpcgehgiiaaKCurveSplits4
import Derived.Test.YtingjpcgehgiiaaKCurveSplits5
import Derived.Test.YtingjpcgehgiiaaKCurveSplits6
section
namespace Go.Proofs.Ytingjpcgehgiiaa.Pr
open Go.RowKit Go.Proofs.YtingjpcgehgiiaaW.PrintWords Go.Proofs.YtingjpcgehgiiaaW.PrintLast Go.Proofs.YtingjpcgehgiiaaW.PrintMore
set_option linter.unusedVariables false
set_option linter.unusedSimpArgs false
def rowOf (c : S24) : S78 := ⟨c.f0, outL c (c.f2.length + 1)⟩
/-- The joins of the ends, made from m on. -/
def restL (l : List S24) (m : Nat) : List S78 := (List.range l.length).map fun j : Nat => if j < m then rowOf (l.getD j z24) else rowOf (sufC (l.drop j))
theorem restL_len (l : List S24) (m : Nat) : (restL l m).length = l.length := by unfold restL; rw [List.length_map, List.length_range]
theorem restL_rd (l : List S24) (m j : Nat) (hj : j < l.length) : rd_T78 (restL l m) (j : Int) = if j < m then rowOf (l.getD j z24) else rowOf (sufC (l.drop j)) := by
  unfold rd_T78 restL
  rw [Int.toNat_natCast, List.getD_eq_getElem?_getD, List.getElem?_map, List.getElem?_range hj]
  rfl
theorem rows_rd (l : List S24) (j : Nat) (hj : j < l.length) : rd_T78 (l.map rowOf) (j : Int) = rowOf (l.getD j z24) := by
  unfold rd_T78
  rw [Int.toNat_natCast, List.getD_eq_getElem?_getD, List.getD_eq_getElem?_getD, List.getElem?_map, List.getElem?_eq_getElem hj]
  rfl
theorem getD_z24 (l : List S24) (j : Nat) (hj : j < l.length) : l.getD j z24 = l[j] := by
  rw [List.getD_eq_getElem?_getD, List.getElem?_eq_getElem hj]
  rfl
theorem memD (l : List S24) (j : Nat) (hj : j < l.length) : l.getD j z24 ∈ l := by
  rw [getD_z24 l j hj]
  exact List.getElem_mem hj
theorem suf_step (l : List S24) (j : Nat) (hj : j + 1 < l.length) : sufC (l.drop j) = joinC (l.getD j z24) (sufC (l.drop (j + 1))) := by
  rw [List.drop_eq_getElem_cons (show j < l.length by omega), List.drop_eq_getElem_cons hj, getD_z24 l j (by omega)]
  rfl
theorem suf_last (l : List S24) (j : Nat) (hj : j + 1 = l.length) : sufC (l.drop j) = l.getD j z24 := by
  rw [List.drop_eq_getElem_cons (show j < l.length by omega), List.drop_eq_nil_of_le (by omega), getD_z24 l j (by omega)]
  rfl
theorem restL_at (l : List S24) (m j : Nat) (hj : j < l.length) : (restL l m)[j]? = some (if j < m then rowOf (l.getD j z24) else rowOf (sufC (l.drop j))) := by
  unfold restL
  rw [List.getElem?_map, List.getElem?_range hj]
  rfl
theorem restL_first (l : List S24) (h : 0 < l.length) : restL l (l.length - 1) = l.map rowOf := by
  apply List.ext_getElem?
  intro j
  by_cases hl : j < l.length
  · rw [restL_at l _ j hl, List.getElem?_map, List.getElem?_eq_getElem hl]
    by_cases hj : j < l.length - 1
    · rw [if_pos hj, getD_z24 l j hl]
      rfl
    · rw [if_neg hj, suf_last l j (by omega), getD_z24 l j hl]
      rfl
  · rw [List.getElem?_eq_none (by rw [restL_len]; omega), List.getElem?_eq_none (by rw [List.length_map]; omega)]
theorem restL_step (l : List S24) (m : Nat) (hm : m < l.length) : (restL l (m + 1)).set m (rowOf (sufC (l.drop m))) = restL l m := by
  apply List.ext_getElem?
  intro j
  by_cases hl : j < l.length
  · rw [List.getElem?_set, restL_at l _ j hl, restL_at l _ j hl]
    by_cases hj : m = j
    · subst hj
      rw [if_pos rfl, if_pos (by rw [restL_len]; omega), if_neg (Nat.lt_irrefl _)]
    · rw [if_neg hj]
      by_cases hj2 : j < m
      · rw [if_pos hj2, if_pos (by omega)]
      · rw [if_neg hj2, if_neg (by omega)]
  · rw [List.getElem?_eq_none (by rw [List.length_set, restL_len]; omega), List.getElem?_eq_none (by rw [restL_len]; omega)]
theorem suf_wd' {l : List S24} (hv : AllV l) (j : Nat) (hj : j < l.length) : Wd (l.length - j) (sufC (l.drop j)) := by
  have := suf_wd (l := l.drop j) (by
    intro e
    have := congrArg List.length e
    rw [List.length_drop] at this
    simp at this
    omega) (fun c hc => hv c (List.mem_of_mem_drop hc))
  rw [List.length_drop] at this
  exact this
theorem rsp_l1 {l : List S24} {a1 : Int} {R : List Int × Int × Int × Int} (hv : AllV l) (h8 : l.length ≤ 8) (hK : Ev (fun k => kimberliteref03_Split.l2 k l a1 (l.map rowOf) (restL l 0) [] a1 (-1048576) 0) R) :
    ∀ m : Nat, m < l.length → Ev (fun k => kimberliteref03_Split.l1 k l a1 (l.map rowOf) (restL l m) ((m : Int) - 1)) R
  | 0, hm => by
    refine Ev.step (fun k => ?_) hK
    simp only [kimberliteref03_Split.l1]
    rw [if_neg (by omega)]
  | m + 1, hm => by
    have ih := rsp_l1 hv h8 hK m (by omega)
    have e0 : ((m + 1 : Nat) : Int) - 1 = (m : Int) := by omega
    have e1 : wrap64 ((m : Int) + 1) = ((m + 1 : Nat) : Int) := by unfold wrap64; omega
    have e2 : wrap64 ((m : Int) - 1) = (m : Int) - 1 := by unfold wrap64; omega
    have r1 := rows_rd l m (by omega)
    have r2 := restL_rd l (m + 1) (m + 1) hm
    rw [if_neg (Nat.lt_irrefl _)] at r2
    have hj := joined_ev (wd_vc (hv _ (memD l m (by omega)))) (suf_wd' hv (m + 1) hm) (by omega) (by omega)
    rw [← suf_step l m hm] at hj
    have lr := restL_len l (m + 1)
    have lm : (l.map rowOf).length = l.length := List.length_map _
    rw [e0]
    have hb := Ev.bind (f := fun k (bt : Int × List Int) => if (m : Int) < ((restL l (m + 1)).length : Int) then kimberliteref03_Split.l1 k l a1 (l.map rowOf) ((restL l (m + 1)).set (m : Int).toNat (⟨bt.1, bt.2⟩ : S78)) (wrap64 ((m : Int) - 1)) else none) hj (r := R) (by
      refine Ev.congr (fun k => ?_) ih
      show (if (m : Int) < ((restL l (m + 1)).length : Int) then kimberliteref03_Split.l1 k l a1 (l.map rowOf) ((restL l (m + 1)).set (m : Int).toNat (rowOf (sufC (l.drop m)))) (wrap64 ((m : Int) - 1)) else none) = _
      rw [if_pos (show (m : Int) < ((restL l (m + 1)).length : Int) by rw [lr]; omega), e2, Int.toNat_natCast, restL_step l m (by omega)])
    refine Ev.step (fun k => ?_) hb
    simp only [kimberliteref03_Split.l1]
    rw [if_pos (by omega), if_pos (by omega), if_pos (by omega), e1, if_pos (by omega), if_pos (by omega), r1, r2]
    rfl
theorem drop_sh (sh : Shr) (i : Nat) (hi : i < sh.length) : sh.drop i = sh.getD i zS :: sh.drop (i + 1) := by
  rw [List.drop_eq_getElem_cons hi, List.getD_eq_getElem?_getD, List.getElem?_eq_getElem hi]
  rfl
theorem Fst.drop {sh : Shr} (h : Fst sh) : ∀ i, Fst (sh.drop i)
  | 0 => h
  | i + 1 => by
    have ih := h.drop i
    by_cases hi : i < sh.length
    · rw [drop_sh sh i hi] at ih
      exact ih.tail
    · rw [List.drop_eq_nil_of_le (by omega)] at ih ⊢
      exact ih
/-- What is known at a place of the division. -/
structure At (l : List S24) (sh : Shr) (i : Nat) : Prop where
  good : GoodC (l.getD i z24, (sh.getD i zS).2)
  rem : sumX (sh.drop i) = (sh.getD i zS).2 + sumX (sh.drop (i + 1))
  ins : inC (sufC (l.drop i)) (sumX (sh.drop i))
theorem sh_fst {l : List S24} {a1 : Int} {sh : Shr} (D : Div l a1 sh) (i : Nat) : (sh.drop i).map Prod.fst = l.drop i := by
  rw [List.map_drop, D.fst]
theorem sh_sort {l : List S24} {a1 : Int} {sh : Shr} (D : Div l a1 sh) (i : Nat) : ∀ p ∈ sh.drop i, sortedI p.1.f2 = true := fun p hp => by
  obtain ⟨_, _, _, _, _, h, _⟩ := vc_parts (good_vc (D.good p (List.mem_of_mem_drop hp)))
  exact h
theorem at_val' {l : List S24} {a1 : Int} {sh : Shr} (D : Div l a1 sh) (i : Nat) (hi : i < l.length) : inC (sufC (l.drop i)) (sumX (sh.drop i)) ∧ costS (sh.drop i) = valC (sufC (l.drop i)) (sumX (sh.drop i)) := by
  have := (D.fst_best.drop i).val (by
    intro e
    have := congrArg List.length e
    rw [List.length_drop, D.len] at this
    simp at this
    omega) (sh_sort D i)
  rw [sh_fst D i] at this
  exact this
theorem at_of {l : List S24} {a1 : Int} {sh : Shr} (D : Div l a1 sh) (i : Nat) (hi : i < l.length) : At l sh i := by
  have hl := D.len
  refine ⟨?_, ?_, (at_val' D i hi).1⟩
  · have := D.good _ (getD_mem sh i (by omega))
    rw [← D.get i hi]
    exact this
  · rw [drop_sh sh i (by omega), sumX_cons]
theorem wd_in {n : Nat} {c : S24} (h : Wd n c) (hn : n ≤ 8) {x : Int} (hx : inC c x) : -16777216 ≤ x ∧ x ≤ 16777216 := by
  have h1 := h.a0
  have h2 := h.b0
  have h3 := h.len
  unfold inC at hx
  omega
theorem rsp_j7 {l : List S24} {a1 : Int} {sh : Shr} (D : Div l a1 sh) (h8 : l.length ≤ 8) {R : List Int × Int × Int × Int} (i : Nat) (hi : i < l.length)
    (hK : Ev (fun k => kimberliteref03_Split.l2 k l a1 (l.map rowOf) (restL l 0) (xsS (sh.take (i + 1))) (sumX (sh.drop (i + 1))) (priceTo sh (i + 1)) ((i + 1 : Nat) : Int)) R) :
    Ev (fun k => kimberliteref03_Split.j7 k l a1 (l.map rowOf) (restL l 0) (xsS (sh.take i)) (sumX (sh.drop i)) (priceTo sh i) (i : Int) (sh.getD i zS).2) R := by
  have hl := D.len
  have A := at_of D i hi
  have W := suf_wd' (fun c hc => by
    rw [← D.fst] at hc
    obtain ⟨p, hp, rfl⟩ := List.mem_map.1 hc
    exact good_vc (D.good p hp)) i hi
  have V := good_vc A.good
  have hin := good_in A.good
  simp only at V hin
  have b1 := wd_in W (by omega) A.ins
  have b2 := in_bound V hin
  have lm : (l.map rowOf).length = l.length := List.length_map _
  have lx : (xsS (sh.take i)).length ≤ 8 := by unfold xsS; rw [List.length_map, List.length_take]; omega
  have e1 : wrap64 ((i : Int) + 1) = ((i + 1 : Nat) : Int) := by unfold wrap64; omega
  have e2 : wrap64 (sumX (sh.drop i) - (sh.getD i zS).2) = sumX (sh.drop (i + 1)) := by
    have := A.rem
    unfold wrap64
    omega
  have e3 : xsS (sh.take i) ++ [(sh.getD i zS).2] = xsS (sh.take (i + 1)) := (xs_succ sh i (by omega)).symm
  have r1 := rows_rd l i hi
  have pr := price_spec sh i (by omega)
  have ps := priceTo_succ sh i (by omega)
  rw [show sh.getD i zS = (l.getD i z24, (sh.getD i zS).2) from by rw [← D.get i hi]] at ps
  by_cases hx : (sh.getD i zS).2 > (l.getD i z24).f0
  · have hx3 : inC (l.getD i z24) ((sh.getD i zS).2 - 1) := ⟨by omega, by have := hin.2; omega⟩
    have hp := val_prev hx hin.2
    have lr := lo_range A.good
    have e4 : wrap64 ((sh.getD i zS).2 - 1) = (sh.getD i zS).2 - 1 := by unfold wrap64; omega
    have e5 : wrap64 (valC (l.getD i z24) (sh.getD i zS).2 - valC (l.getD i z24) ((sh.getD i zS).2 - 1)) = loPr (l.getD i z24, (sh.getD i zS).2) := by unfold wrap64; omega
    refine Ev.step (fun k => ?_) hK
    simp only [kimberliteref03_Split.j7]
    rw [if_pos (by omega), Option.bind_some, if_pos (by omega), if_pos (by omega), r1]
    show (if (sh.getD i zS).2 > (l.getD i z24).f0 then (kimberliteref03_Row_Value.f (l.getD i z24).f0 (outL (l.getD i z24) ((l.getD i z24).f2.length + 1)) (sh.getD i zS).2).bind _ else _) = _
    rw [if_pos hx, row_value V hin, Option.bind_some, e4]
    show (kimberliteref03_Row_Value.f (l.getD i z24).f0 (outL (l.getD i z24) ((l.getD i z24).f2.length + 1)) _).bind _ = _
    rw [row_value V hx3, Option.bind_some, e5, e1, e2, e3, mx_eq, ps]
  · have e5 : loPr (l.getD i z24, (sh.getD i zS).2) = -1048576 := by
      unfold loPr
      simp only
      rw [if_neg (by omega)]
    have e6 : max (priceTo sh i) (loPr (l.getD i z24, (sh.getD i zS).2)) = priceTo sh i := by rw [e5]; have := pr.2.1; omega
    rw [e6] at ps
    refine Ev.step (fun k => ?_) hK
    simp only [kimberliteref03_Split.j7]
    rw [if_pos (by omega), Option.bind_some, if_pos (by omega), if_pos (by omega), r1]
    show (if (sh.getD i zS).2 > (l.getD i z24).f0 then _ else _) = _
    rw [if_neg hx, e1, e2, e3, ps]
theorem rsp_last {l : List S24} {a1 : Int} {sh : Shr} (D : Div l a1 sh) (h8 : l.length ≤ 8) {R : List Int × Int × Int × Int} (x14 : List Int) (x16 : Int) (i : Nat) (hi : i + 1 = l.length)
    (hK : Ev (fun k => kimberliteref03_Split.j7 k l a1 (l.map rowOf) (restL l 0) x14 (sumX (sh.drop i)) x16 (i : Int) (sh.getD i zS).2) R) :
    Ev (fun k => kimberliteref03_Split.l3 k l a1 (l.map rowOf) (restL l 0) x14 (sumX (sh.drop i)) x16 (i : Int) (sumX (sh.drop i)) (l.getD i z24).f0) R := by
  have hl := D.len
  have A := at_of D i (by omega)
  have V := good_vc A.good
  simp only at V
  have lm : (l.map rowOf).length = l.length := List.length_map _
  have e1 : wrap64 ((i : Int) + 1) = ((i + 1 : Nat) : Int) := by unfold wrap64; omega
  have e2 : sumX (sh.drop i) = (sh.getD i zS).2 := by
    have e := A.rem
    rw [List.drop_eq_nil_of_le (show sh.length ≤ i + 1 by omega)] at e
    have : sumX [] = 0 := rfl
    omega
  have r1 := rows_rd l i (by omega)
  have hj : Ev (fun k => kimberliteref03_Split.j5 k l a1 (l.map rowOf) (restL l 0) x14 (sumX (sh.drop i)) x16 (i : Int) (sumX (sh.drop i)) (l.getD i z24).f0 false) R := by
    refine Ev.step (fun k => ?_) hK
    simp only [kimberliteref03_Split.j5]
    rw [if_neg (by simp)]
    conv => lhs; rw [e2]
    conv => rhs; rw [e2]
  refine Ev.step (fun k => ?_) hj
  simp only [kimberliteref03_Split.l3]
  rw [if_pos (by omega), if_pos (by omega), r1]
  show (kimberliteref03_Row_To.f (l.getD i z24).f0 (outL (l.getD i z24) ((l.getD i z24).f2.length + 1))).bind _ = _
  rw [row_to V, Option.bind_some, if_pos (by omega), e1, decide_eq_false (by omega)]
/-- One number of the search. -/
theorem rsp_test {l : List S24} {a1 : Int} {sh : Shr} (D : Div l a1 sh) (h8 : l.length ≤ 8) {R : List Int × Int × Int × Int} (x14 : List Int) (x16 : Int) (i : Nat) (hi : i + 1 < l.length) (y : Int) (hy : inC (l.getD i z24) y) (b : Bool)
    (hb : b = true ↔ (inC (sufC (l.drop (i + 1))) (sumX (sh.drop i) - y) ∧ valC (l.getD i z24) y + valC (sufC (l.drop (i + 1))) (sumX (sh.drop i) - y) = valC (sufC (l.drop i)) (sumX (sh.drop i))))
    (hK : Ev (fun k => kimberliteref03_Split.j6 k l a1 (l.map rowOf) (restL l 0) x14 (sumX (sh.drop i)) x16 (i : Int) (sumX (sh.drop i)) y b) R) :
    Ev (fun k => kimberliteref03_Split.l3 k l a1 (l.map rowOf) (restL l 0) x14 (sumX (sh.drop i)) x16 (i : Int) (sumX (sh.drop i)) y) R := by
  have hl := D.len
  have A := at_of D i (by omega)
  have hv : AllV l := fun c hc => by
    rw [← D.fst] at hc
    obtain ⟨p, hp, rfl⟩ := List.mem_map.1 hc
    exact good_vc (D.good p hp)
  have V := good_vc A.good
  simp only at V
  have W0 := suf_wd' hv i (by omega)
  have W1 := suf_wd' hv (i + 1) hi
  have b1 := wd_in W0 (by omega) A.ins
  have b2 := in_bound V hy
  have lm : (l.map rowOf).length = l.length := List.length_map _
  have lr := restL_len l 0
  have e1 : wrap64 ((i : Int) + 1) = ((i + 1 : Nat) : Int) := by unfold wrap64; omega
  have e2 : wrap64 (sumX (sh.drop i) - y) = sumX (sh.drop i) - y := by unfold wrap64; omega
  have r1 := rows_rd l i (by omega)
  have r2 := restL_rd l 0 (i + 1) hi
  have r3 := restL_rd l 0 i (by omega)
  rw [if_neg (Nat.not_lt_zero _)] at r2 r3
  have hj : Ev (fun k => kimberliteref03_Split.j5 k l a1 (l.map rowOf) (restL l 0) x14 (sumX (sh.drop i)) x16 (i : Int) (sumX (sh.drop i)) y true) R := by
    refine Ev.step (fun k => ?_) hK
    simp only [kimberliteref03_Split.j5]
    rw [if_pos trivial, e1, if_pos (by omega), if_pos (by omega), r2, e2]
    show (kimberliteref03_Row_has.f (sufC (l.drop (i + 1))).f0 (outL (sufC (l.drop (i + 1))) ((sufC (l.drop (i + 1))).f2.length + 1)) _).bind _ = _
    rw [row_has_w W1 (by omega), Option.bind_some]
    by_cases hq : inC (sufC (l.drop (i + 1))) (sumX (sh.drop i) - y)
    · rw [if_pos (decide_eq_true hq), if_pos (by omega), if_pos (by omega), r1, r3]
      show (kimberliteref03_Row_Value.f (l.getD i z24).f0 (outL (l.getD i z24) ((l.getD i z24).f2.length + 1)) y).bind _ = _
      rw [row_value V hy, Option.bind_some]
      show (kimberliteref03_Row_Value.f (sufC (l.drop (i + 1))).f0 (outL (sufC (l.drop (i + 1))) ((sufC (l.drop (i + 1))).f2.length + 1)) _).bind _ = _
      rw [row_value_w W1 (by omega) hq, Option.bind_some, if_pos (by omega)]
      show (kimberliteref03_Row_Value.f (sufC (l.drop i)).f0 (outL (sufC (l.drop i)) ((sufC (l.drop i)).f2.length + 1)) _).bind _ = _
      rw [row_value_w W0 (by omega) A.ins, Option.bind_some]
      have v1 := wd_val W1 (sumX (sh.drop i) - y)
      have v2 := val_bound V y
      have ew : wrap64 (valC (l.getD i z24) y + valC (sufC (l.drop (i + 1))) (sumX (sh.drop i) - y)) = valC (l.getD i z24) y + valC (sufC (l.drop (i + 1))) (sumX (sh.drop i) - y) := by
        have : ((l.length - (i + 1) : Nat) : Int) ≤ 8 := by omega
        unfold wrap64
        omega
      rw [ew]
      congr 1
      cases b with
      | true =>
        have := (hb.1 rfl).2
        rw [this]
        simp
      | false =>
        rw [beq_eq_false_iff_ne]
        intro h
        have := hb.2 ⟨hq, h⟩
        cases this
    · rw [if_neg (by rw [decide_eq_true_eq]; exact hq)]
      have : b = false := by
        cases b with
        | true => exact absurd (hb.1 rfl).1 hq
        | false => rfl
      rw [this]
  refine Ev.step (fun k => ?_) hj
  simp only [kimberliteref03_Split.l3]
  rw [if_pos (by omega), if_pos (by omega), r1]
  show (kimberliteref03_Row_To.f (l.getD i z24).f0 (outL (l.getD i z24) ((l.getD i z24).f2.length + 1))).bind _ = _
  rw [row_to V, Option.bind_some, if_pos hy.2, e1, decide_eq_true (by omega)]
theorem rsp_search {l : List S24} {a1 : Int} {sh : Shr} (D : Div l a1 sh) (h8 : l.length ≤ 8) {R : List Int × Int × Int × Int} (x14 : List Int) (x16 : Int) (i : Nat) (hi : i + 1 < l.length)
    (hK : Ev (fun k => kimberliteref03_Split.j7 k l a1 (l.map rowOf) (restL l 0) x14 (sumX (sh.drop i)) x16 (i : Int) (sh.getD i zS).2) R) :
    ∀ (d : Nat) (y : Int), (l.getD i z24).f0 ≤ y → y + (d : Int) = (sh.getD i zS).2 → Ev (fun k => kimberliteref03_Split.l3 k l a1 (l.map rowOf) (restL l 0) x14 (sumX (sh.drop i)) x16 (i : Int) (sumX (sh.drop i)) y) R := by
  have hl := D.len
  have A := at_of D i (by omega)
  have hin := good_in A.good
  simp only at hin
  have H := (D.fst_best.drop i)
  have hs := sh_sort D i
  have F := sh_fst D (i + 1)
  have F0 := sh_fst D i
  rw [drop_sh sh i (by omega), drop_sh sh (i + 1) (by omega)] at H hs F0
  rw [drop_sh sh (i + 1) (by omega)] at F
  obtain ⟨⟨h1, h2⟩, h3⟩ := H.here hs
  rw [F, ← drop_sh sh (i + 1) (by omega), ← drop_sh sh i (by omega)] at h1
  rw [F, F0, ← drop_sh sh (i + 1) (by omega), ← drop_sh sh i (by omega), D.get i (by omega)] at h2 h3
  intro d
  induction d with
  | zero =>
    intro y hy e
    obtain rfl : y = (sh.getD i zS).2 := by omega
    refine rsp_test D h8 x14 x16 i hi _ hin true ⟨fun _ => ⟨h1, h2⟩, fun _ => rfl⟩ ?_
    refine Ev.step (fun k => ?_) hK
    simp only [kimberliteref03_Split.j6]
    rw [if_pos trivial]
  | succ d ih =>
    intro y hy e
    have hyi : inC (l.getD i z24) y := ⟨hy, by have := hin.2; omega⟩
    have b2 := in_bound (good_vc A.good) hin
    have b3 := in_bound (good_vc A.good) hyi
    have e1 : wrap64 (y + 1) = y + 1 := by unfold wrap64; omega
    refine rsp_test D h8 x14 x16 i hi y hyi false ⟨fun h => (by cases h), fun h => absurd h (h3 y hyi (by omega))⟩ ?_
    refine Ev.step (fun k => ?_) (ih (y + 1) (by omega) (by omega))
    simp only [kimberliteref03_Split.j6]
    rw [if_neg (by simp), e1]
theorem rsp_l2 {l : List S24} {a1 : Int} {sh : Shr} (D : Div l a1 sh) (h8 : l.length ≤ 8) (h0 : 0 < l.length) : ∀ d i : Nat, i + d = l.length →
    Ev (fun k => kimberliteref03_Split.l2 k l a1 (l.map rowOf) (restL l 0) (xsS (sh.take i)) (sumX (sh.drop i)) (priceTo sh i) (i : Int)) (xsS sh, sumTo sh sh.length, priceTo sh sh.length, 0)
  | 0, i, hi => by
    have hl := D.len
    have hv : AllV l := fun c hc => by
      rw [← D.fst] at hc
      obtain ⟨p, hp, rfl⟩ := List.mem_map.1 hc
      exact good_vc (D.good p hp)
    have W0 := suf_wd' hv 0 h0
    obtain ⟨v1, v2⟩ := at_val' D 0 h0
    have hs : sumX (sh.drop 0) = a1 := D.sum
    have r0 := restL_rd l 0 0 h0
    rw [if_neg (Nat.not_lt_zero _)] at r0
    have lr := restL_len l 0
    have ec : sumTo sh sh.length = costS sh := by rw [D.cost (by omega) _ (Nat.le_refl _), costS_sm]
    rw [hs] at v1 v2
    have ei : i = sh.length := by omega
    rw [ei, List.take_length, ec, show costS sh = valC (sufC (l.drop 0)) a1 from v2]
    refine Ev.step (f := fun _ => some (xsS sh, valC (sufC (l.drop 0)) a1, priceTo sh sh.length, 0)) (fun k => ?_) (Ev.now _)
    simp only [kimberliteref03_Split.l2]
    rw [if_neg (by omega), if_pos (by omega)]
    rw [show (0 : Int) = ((0 : Nat) : Int) from rfl, r0]
    show (kimberliteref03_Row_Value.f (sufC (l.drop 0)).f0 (outL (sufC (l.drop 0)) ((sufC (l.drop 0)).f2.length + 1)) a1).bind _ = _
    rw [row_value_w W0 (by omega) v1]
    rfl
  | d + 1, i, hi => by
    have hl := D.len
    have A := at_of D i (by omega)
    have hin := good_in A.good
    simp only at hin
    have lm : (l.map rowOf).length = l.length := List.length_map _
    have r1 := rows_rd l i (by omega)
    have h7 := rsp_j7 D h8 i (by omega) (rsp_l2 D h8 h0 d (i + 1) (by omega))
    have h3 : Ev (fun k => kimberliteref03_Split.l3 k l a1 (l.map rowOf) (restL l 0) (xsS (sh.take i)) (sumX (sh.drop i)) (priceTo sh i) (i : Int) (sumX (sh.drop i)) (l.getD i z24).f0) (xsS sh, sumTo sh sh.length, priceTo sh sh.length, 0) := by
      by_cases hl1 : i + 1 = l.length
      · exact rsp_last D h8 _ _ i hl1 h7
      · exact rsp_search D h8 _ _ i (by omega) h7 ((sh.getD i zS).2 - (l.getD i z24).f0).toNat _ (Int.le_refl _) (by have := hin.1; omega)
    refine Ev.step (fun k => ?_) h3
    simp only [kimberliteref03_Split.l2]
    rw [if_pos (by omega), if_pos (by omega), if_pos (by omega), r1]
    rfl
theorem rsp_l0 {l : List S24} (a1 : Int) (h8 : l.length ≤ 8) : ∀ d i : Nat, i + d = l.length → AllV (l.take i) →
    Ev (fun k => kimberliteref03_Split.l0 k l a1 (loS (l.take i)) (hiS (l.take i)) ((l.take i).map rowOf) (i : Int)) (splitR l a1)
  | 0, i, hi, hv => by
    rw [List.take_of_length_le (by omega)] at hv ⊢
    by_cases h0 : l.length = 0
    · have e : splitR l a1 = ([], 0, 0, 2) := by unfold splitR; rw [if_neg (by omega), if_pos h0]
      rw [e]
      refine Ev.step (f := fun _ => some ([], 0, 0, 2)) (fun k => ?_) (Ev.now _)
      simp only [kimberliteref03_Split.l0]
      rw [if_neg (by omega), if_pos (by omega)]
    · have e : splitR l a1 = splitOk l a1 := by
        unfold splitR
        rw [if_neg (by omega), if_neg h0, if_neg (by
          intro h
          obtain ⟨c, hc, h⟩ := List.any_eq_true.1 h
          have := hv c hc
          rw [this] at h
          cases h)]
      have bad : Ev (fun k => kimberliteref03_Split.j1 k l a1 (l.map rowOf) [] true) ([], 0, 0, 10) := by
        refine Ev.step (f := fun _ => some ([], 0, 0, 10)) (fun k => ?_) (Ev.now _)
        simp only [kimberliteref03_Split.j1]
        rw [if_pos trivial]
      rw [e]
      unfold splitOk
      by_cases c1 : a1 < loS l
      · rw [if_pos c1]
        refine Ev.step (fun k => ?_) bad
        simp only [kimberliteref03_Split.l0]
        rw [if_neg (by omega), if_neg (by omega), if_pos c1]
      · rw [if_neg c1]
        by_cases c2 : hiS l < a1
        · rw [if_pos c2]
          refine Ev.step (fun k => ?_) bad
          simp only [kimberliteref03_Split.l0]
          rw [if_neg (by omega), if_neg (by omega), if_neg c1, decide_eq_true c2]
        · rw [if_neg c2]
          have D := split_div hv (a1 := a1) (by omega) (by omega)
          have h2 := rsp_l2 D h8 (by omega) l.length 0 (by omega)
          rw [show sumX (List.drop 0 (fillS (a1 - loS l).toNat (mkSh l))) = a1 from D.sum] at h2
          have h1 := rsp_l1 hv h8 h2 (l.length - 1) (by omega)
          rw [restL_first l (by omega)] at h1
          have e1 : wrap64 ((l.length : Int) - 2) = ((l.length - 1 : Nat) : Int) - 1 := by unfold wrap64; omega
          rw [← e1] at h1
          have lm : (l.map rowOf).length = l.length := List.length_map _
          have hj : Ev (fun k => kimberliteref03_Split.j1 k l a1 (l.map rowOf) [] false) (xsS (fillS (a1 - loS l).toNat (mkSh l)), sumTo (fillS (a1 - loS l).toNat (mkSh l)) (fillS (a1 - loS l).toNat (mkSh l)).length, priceTo (fillS (a1 - loS l).toNat (mkSh l)) (fillS (a1 - loS l).toNat (mkSh l)).length, 0) := by
            refine Ev.step (fun k => ?_) h1
            simp only [kimberliteref03_Split.j1]
            rw [if_neg (by simp), if_pos (by simp; omega), List.nil_append]
          refine Ev.step (fun k => ?_) hj
          simp only [kimberliteref03_Split.l0]
          rw [if_neg (by omega), if_neg (by omega), if_neg c1, decide_eq_false (by omega)]
  | d + 1, i, hi, hv => by
    by_cases hV : Vc (l.getD i z24)
    · have hv2 : AllV (l.take (i + 1)) := by
        rw [take_snoc l i (by omega)]
        intro c hc
        rcases List.mem_append.1 hc with h | h
        · exact hv c h
        · rw [List.mem_singleton] at h
          subst h
          exact hV
      have ih := rsp_l0 a1 h8 d (i + 1) (by omega) hv2
      have e1 : wrap64 ((i : Int) + 1) = ((i + 1 : Nat) : Int) := by unfold wrap64; omega
      obtain ⟨e2, e3⟩ : wrap64 (loS (l.take i) + (l.getD i z24).f0) = loS (l.take (i + 1)) ∧ wrap64 (hiS (l.take i) + ((l.getD i z24).f0 + ((l.getD i z24).f2.length : Int))) = hiS (l.take (i + 1)) := by
        obtain ⟨s1, s2⟩ := loS_succ l i (by omega)
        obtain ⟨q1, q2, q3, q4⟩ := sums_bound _ hv2
        have lt : (l.take (i + 1)).length ≤ 8 := by rw [List.length_take]; omega
        rw [← s1, ← s2]
        generalize loS (l.take (i + 1)) = A at *
        generalize hiS (l.take (i + 1)) = B at *
        generalize (l.take (i + 1)).length = n at *
        clear ih hv hv2 hV
        constructor
        · unfold wrap64; omega
        · unfold wrap64; omega
      have lt2 : (l.take i).length = i := by rw [List.length_take]; exact Nat.min_eq_left (by omega)
      have e4 : (l.take i).map rowOf ++ [rowOf (l.getD i z24)] = (l.take (i + 1)).map rowOf := by rw [take_snoc l i (by omega), List.map_append]; rfl
      have lm : ((l.take (i + 1)).map rowOf).length = i + 1 := by rw [List.length_map, List.length_take]; exact Nat.min_eq_left (by omega)
      have lm2 : ((l.take i).map rowOf).length = i := by rw [List.length_map, lt2]
      have r1 : rd_T78 ((l.take (i + 1)).map rowOf) (i : Int) = rowOf (l.getD i z24) := by
        rw [← e4]
        unfold rd_T78
        rw [Int.toNat_natCast, List.getD_eq_getElem?_getD, List.getElem?_append_right (Nat.le_of_eq lm2), lm2, Nat.sub_self]
        rfl
      have rl : rd_T24 l (i : Int) = l.getD i z24 := by unfold rd_T24; rw [Int.toNat_natCast]
      have hlt : ((l.take i).map rowOf).length < 4398046511104 := by rw [lm2]; exact Nat.lt_of_le_of_lt (show i ≤ 8 by omega) (by decide)
      have hlt2 : (i : Int) < (((l.take (i + 1)).map rowOf).length : Int) := by rw [lm]; exact Int.ofNat_lt.2 (Nat.lt_succ_self i)
      have hi1 : (i : Int) < (l.length : Int) := Int.ofNat_lt.2 (by omega)
      have hi0 : (0 : Int) ≤ (i : Int) := Int.natCast_nonneg i
      have e4u : (l.take i).map rowOf ++ [(⟨(l.getD i z24).f0, outL (l.getD i z24) ((l.getD i z24).f2.length + 1)⟩ : S78)] = (l.take (i + 1)).map rowOf := e4
      have hb := Ev.bind (rvalid_ev (l.getD i z24)) (f := fun k t412 => if t412 = true then ((kimberliteref03_Out.f k (l.getD i z24).f0 (l.getD i z24).f1 (l.getD i z24).f2).bind fun bt414 => (if ((l.take i).map rowOf).length < 4398046511104 then ((some (((l.take i).map rowOf) ++ [(⟨bt414.1, bt414.2⟩ : S78)] : List S78)).bind fun y418 => (if (i : Int) < (y418.length : Int) then ((kimberliteref03_Row_To.f ((rd_T78 y418 (i : Int)).f0) ((rd_T78 y418 (i : Int)).f1)).bind fun t423 => (kimberliteref03_Split.l0 k l a1 (wrap64 (loS (l.take i) + ((rd_T78 y418 (i : Int)).f0))) (wrap64 (hiS (l.take i) + t423)) y418 (wrap64 ((i : Int) + 1)))) else none)) else none)) else some (([] : List Int), 0, 0, 2)) (r := splitR l a1) (by
        refine Ev.congr (fun k => if_pos (decide_eq_true hV)) (Ev.bind (out_ev hV) (Ev.congr (fun k => ?_) ih))
        simp only
        rw [if_pos hlt, Option.bind_some, e4u, if_pos hlt2, r1]
        show (kimberliteref03_Row_To.f (l.getD i z24).f0 (outL (l.getD i z24) ((l.getD i z24).f2.length + 1))).bind _ = _
        rw [row_to hV, Option.bind_some, e1]
        show kimberliteref03_Split.l0 k l a1 (wrap64 (loS (l.take i) + (l.getD i z24).f0)) _ _ _ = _
        rw [e2, e3])
      refine Ev.step (fun k => ?_) hb
      simp only [kimberliteref03_Split.l0]
      rw [if_pos hi1, if_pos hi0, rl]
    · have e : splitR l a1 = ([], 0, 0, 2) := by
        unfold splitR
        rw [if_neg (by omega), if_neg (by omega), if_pos]
        rw [List.any_eq_true]
        refine ⟨_, memD l i (by omega), ?_⟩
        cases hh : validC (l.getD i z24).f0 (l.getD i z24).f1 (l.getD i z24).f2 with
        | true => exact absurd hh hV
        | false => rfl
      rw [e]
      have rl : rd_T24 l (i : Int) = l.getD i z24 := by unfold rd_T24; rw [Int.toNat_natCast]
      have hb := Ev.bind (rvalid_ev (l.getD i z24)) (f := fun k t412 => if t412 = true then ((kimberliteref03_Out.f k (l.getD i z24).f0 (l.getD i z24).f1 (l.getD i z24).f2).bind fun bt414 => (if ((l.take i).map rowOf).length < 4398046511104 then ((some (((l.take i).map rowOf) ++ [(⟨bt414.1, bt414.2⟩ : S78)] : List S78)).bind fun y418 => (if (i : Int) < (y418.length : Int) then ((kimberliteref03_Row_To.f ((rd_T78 y418 (i : Int)).f0) ((rd_T78 y418 (i : Int)).f1)).bind fun t423 => (kimberliteref03_Split.l0 k l a1 (wrap64 (loS (l.take i) + ((rd_T78 y418 (i : Int)).f0))) (wrap64 (hiS (l.take i) + t423)) y418 (wrap64 ((i : Int) + 1)))) else none)) else none)) else some (([] : List Int), 0, 0, 2)) (r := (([] : List Int), (0 : Int), (0 : Int), (2 : Int))) (by
        exact Ev.congr (f := fun _ => some (([] : List Int), (0 : Int), (0 : Int), (2 : Int))) (fun k => if_neg (by rw [decide_eq_true_eq]; exact hV)) (Ev.now _))
      refine Ev.step (fun k => ?_) hb
      simp only [kimberliteref03_Split.l0]
      rw [if_pos (by omega), if_pos (by omega), rl]
/-- What the reference's Split returns. -/
theorem rsplit_ev (l : List S24) (a1 : Int) : Ev (fun k => kimberliteref03_Split.f k l a1) (splitR l a1) := by
  unfold kimberliteref03_Split.f
  by_cases h8 : 8 < l.length
  · have e : splitR l a1 = ([], 0, 0, 3) := by unfold splitR; rw [if_pos h8]
    rw [e]
    exact Ev.congr (f := fun _ => some ([], 0, 0, 3)) (fun k => if_pos (by omega)) (Ev.now _)
  · refine Ev.congr (fun k => if_neg (by omega)) ?_
    exact rsp_l0 a1 (by omega) l.length 0 (by omega) (fun c hc => by simp at hc)
end Go.Proofs.Ytingjpcgehgiiaa.Pr
end
