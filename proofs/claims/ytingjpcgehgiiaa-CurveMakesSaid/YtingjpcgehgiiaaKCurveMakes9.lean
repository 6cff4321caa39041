/- What the proof of the law needs, trimmed and merged by wip/pack.py out of the texts YtingjpcgehgiiaaRmp, YtingjpcgehgiiaaRma, YtingjpcgehgiiaaExtAdd. No condition. -/
import Derived.Test.YtingjpcgehgiiaaKCurveMakes0
import Derived.Test.YtingjpcgehgiiaaKCurveMakes1
import Derived.Test.YtingjpcgehgiiaaKCurveMakes2
import Derived.Test.YtingjpcgehgiiaaKCurveMakes3
import Derived.Test.YtingjpcgehgiiaaKCurveMakes4
import Derived.Test.YtingjpcgehgiiaaKCurveMakes5
import Derived.Test.YtingjpcgehgiiaaKCurveMakes6
import Derived.Test.YtingjpcgehgiiaaKCurveMakes7
import Derived.Test.YtingjpcgehgiiaaKCurveMakes8
section
namespace Go.Proofs.Ytingjpcgehgiiaa.Pr
open Go.RowKit Go.Proofs.YtingjpcgehgiiaaW.PrintWords Go.Proofs.YtingjpcgehgiiaaW.PrintLast Go.Proofs.YtingjpcgehgiiaaW.PrintMore
set_option linter.unusedVariables false
set_option linter.unusedSimpArgs false
/-- What has come of a part when i numbers of the domain are gone through. -/
def pSt (c : S24) (x y : Int) (i : Nat) : Int × List Int :=
  if mx x c.f0 > mn y (toC c) ∨ c.f0 + (i : Int) ≤ mx x c.f0 then (0, []) else (mx x c.f0, outL (partC c x y) (min (c.f0 + (i : Int)) (mn y (toC c) + 1) - mx x c.f0).toNat)
theorem pSt_skip {c : S24} {x y : Int} {i : Nat} (hi : i ≤ c.f2.length) (h : c.f0 + (i : Int) < x ∨ c.f0 + (i : Int) > y) : pSt c x y (i + 1) = pSt c x y i := by
  unfold pSt
  by_cases hg : mx x c.f0 > mn y (toC c)
  · rw [if_pos (.inl hg), if_pos (.inl hg)]
  · rw [mx_eq, mn_eq] at *
    have ht : toC c = c.f0 + (c.f2.length : Int) := rfl
    by_cases h1 : c.f0 + (i : Int) ≤ max x c.f0
    · rw [if_pos (Or.inr h1), if_pos (Or.inr (by omega))]
    · rw [if_neg (by omega), if_neg (by omega)]
      congr 2
      omega
theorem pSt_take {c : S24} {x y : Int} {i : Nat} (hi : i ≤ c.f2.length) (h1 : x ≤ c.f0 + (i : Int)) (h2 : c.f0 + (i : Int) ≤ y) :
    pSt c x y (i + 1) = (if ((pSt c x y i).2.length : Int) = 0 then c.f0 + (i : Int) else (pSt c x y i).1, (pSt c x y i).2 ++ [valC c (c.f0 + (i : Int))]) := by
  have ht : toC c = c.f0 + (c.f2.length : Int) := rfl
  have hg : ¬mx x c.f0 > mn y (toC c) := by rw [mx_eq, mn_eq]; omega
  obtain ⟨i1, i2, i3⟩ := part_in hg
  have hv : valC (partC c x y) (c.f0 + (i : Int)) = valC c (c.f0 + (i : Int)) := val_part i1 i2 (by rw [mx_eq, mn_eq]; omega)
  have hf : (partC c x y).f0 = mx x c.f0 := rfl
  by_cases h3 : c.f0 + (i : Int) ≤ mx x c.f0
  · have e1 : pSt c x y i = (0, []) := if_pos (.inr h3)
    have e2 : pSt c x y (i + 1) = (mx x c.f0, outL (partC c x y) (min (c.f0 + ((i + 1 : Nat) : Int)) (mn y (toC c) + 1) - mx x c.f0).toNat) := if_neg (by rw [mx_eq, mn_eq] at *; omega)
    rw [e1, e2]
    have e3 : (min (c.f0 + ((i + 1 : Nat) : Int)) (mn y (toC c) + 1) - mx x c.f0).toNat = 0 + 1 := by rw [mx_eq, mn_eq] at *; omega
    have e4 : mx x c.f0 = c.f0 + (i : Int) := by rw [mx_eq] at *; omega
    rw [e3, outL_succ, nil_out, hf, e4, show c.f0 + (i : Int) + ((0 : Nat) : Int) = c.f0 + (i : Int) by omega, hv]
    rfl
  · have e1 : pSt c x y i = (mx x c.f0, outL (partC c x y) (min (c.f0 + (i : Int)) (mn y (toC c) + 1) - mx x c.f0).toNat) := if_neg (fun h => h.elim hg h3)
    have e2 : pSt c x y (i + 1) = (mx x c.f0, outL (partC c x y) (min (c.f0 + ((i + 1 : Nat) : Int)) (mn y (toC c) + 1) - mx x c.f0).toNat) := if_neg (by rw [mx_eq, mn_eq] at *; omega)
    obtain ⟨m, hm⟩ : ∃ m : Nat, (min (c.f0 + (i : Int)) (mn y (toC c) + 1) - mx x c.f0).toNat = m + 1 := ⟨(min (c.f0 + (i : Int)) (mn y (toC c) + 1) - mx x c.f0).toNat - 1, by rw [mx_eq, mn_eq] at *; omega⟩
    have e3 : (min (c.f0 + ((i + 1 : Nat) : Int)) (mn y (toC c) + 1) - mx x c.f0).toNat = m + 1 + 1 := by rw [mx_eq, mn_eq] at *; omega
    have e4 : mx x c.f0 + ((m + 1 : Nat) : Int) = c.f0 + (i : Int) := by rw [mx_eq, mn_eq] at *; omega
    rw [e1, e2, hm, e3, outL_succ (partC c x y) (m + 1), hf, e4, hv]
    simp only
    rw [if_neg (by rw [outL_len]; omega)]
theorem pSt_len (c : S24) (x y : Int) (i : Nat) (hi : i ≤ c.f2.length + 1) : (pSt c x y i).2.length ≤ c.f2.length + 1 := by
  unfold pSt
  split
  · simp
  · rename_i h
    rw [outL_len]
    rw [mx_eq, mn_eq] at *
    omega
theorem rpart_loop {c : S24} (h : Vc c) (x y : Int) : ∀ n i : Nat, i + n = c.f2.length + 1 → Ev (fun k => kimberliteref03_Part.l0 k x y (c.f0 + (i : Int)) c.f0 (outL c (c.f2.length + 1)) (pSt c x y i).1 (pSt c x y i).2) (partR c x y)
  | 0, i, hi => by
    obtain ⟨h1, h2, h3, h4, h5, _, h7⟩ := vc_parts h
    have ht : toC c = c.f0 + (c.f2.length : Int) := rfl
    have e : partR c x y = if mx x c.f0 > mn y (toC c) then (0, 0, [], 6) else madeR (partC c x y) := if_pos h
    rw [e]
    by_cases hg : mx x c.f0 > mn y (toC c)
    · rw [if_pos hg]
      have ep : pSt c x y i = (0, []) := if_pos (.inl hg)
      rw [ep]
      refine Ev.step (f := fun _ => some (0, 0, [], 6)) (fun k => ?_) (Ev.now _)
      simp only [kimberliteref03_Part.l0]
      rw [row_to h, Option.bind_some, if_neg (by omega)]
      rfl
    · rw [if_neg hg]
      obtain ⟨i1, i2, i3⟩ := part_in hg
      have hl : (partC c x y).f2.length = (mn y (toC c) - mx x c.f0).toNat := by
        have := sub_len i1 i2
        unfold inC at i1 i2
        unfold partC
        simp only
        omega
      have ep : pSt c x y i = ((partC c x y).f0, outL (partC c x y) ((partC c x y).f2.length + 1)) := by
        unfold pSt
        rw [if_neg (by rw [mx_eq, mn_eq] at *; omega)]
        have e2 : (min (c.f0 + (i : Int)) (mn y (toC c) + 1) - mx x c.f0).toNat = (partC c x y).f2.length + 1 := by rw [hl]; rw [mx_eq, mn_eq] at *; omega
        rw [e2]
        rfl
      have hr := ranged_out (d := partC c x y) (by rw [hl]; rw [mx_eq, mn_eq] at *; omega) (fun s hs => by have := h7 s (sub_mem hs); omega)
      rw [ep]
      refine Ev.step (fun k => ?_) (Ev.bind hr (Ev.now (madeR (partC c x y))))
      simp only [kimberliteref03_Part.l0]
      rw [row_to h, Option.bind_some, if_neg (by omega), if_neg (by rw [outL_len]; omega)]
  | n + 1, i, hi => by
    obtain ⟨h1, h2, h3, h4, h5, _, h7⟩ := vc_parts h
    have ih := rpart_loop h x y n (i + 1) (by omega)
    have hx : inC c (c.f0 + (i : Int)) := by unfold inC; omega
    have ew : wrap64 (c.f0 + (i : Int) + 1) = c.f0 + ((i + 1 : Nat) : Int) := by unfold wrap64; omega
    have hlen := pSt_len c x y i (by omega)
    by_cases hs : c.f0 + (i : Int) < x ∨ c.f0 + (i : Int) > y
    · rw [pSt_skip (by omega) hs] at ih
      have hj : Ev (fun k => kimberliteref03_Part.j1 k x y (c.f0 + (i : Int)) true c.f0 (outL c (c.f2.length + 1)) (pSt c x y i).1 (pSt c x y i).2) (partR c x y) := by
        refine Ev.step (fun k => ?_) ih
        simp only [kimberliteref03_Part.j1]
        rw [if_pos trivial, ew]
      refine Ev.step (fun k => ?_) hj
      simp only [kimberliteref03_Part.l0]
      rw [row_to h, Option.bind_some, if_pos (show c.f0 + (i : Int) ≤ c.f0 + (c.f2.length : Int) from hx.2)]
      by_cases h1 : c.f0 + (i : Int) < x
      · rw [if_pos h1]
      · rw [if_neg h1, decide_eq_true (by omega)]
    · rw [pSt_take (by omega) (by omega) (by omega)] at ih
      have hj2 : Ev (fun k => kimberliteref03_Part.j2 k x y (c.f0 + (i : Int)) c.f0 (outL c (c.f2.length + 1)) (if ((pSt c x y i).2.length : Int) = 0 then c.f0 + (i : Int) else (pSt c x y i).1) (pSt c x y i).2) (partR c x y) := by
        refine Ev.step (fun k => ?_) ih
        simp only [kimberliteref03_Part.j2]
        rw [row_value h hx, Option.bind_some, if_pos (by omega), ew]
      have hj : Ev (fun k => kimberliteref03_Part.j1 k x y (c.f0 + (i : Int)) false c.f0 (outL c (c.f2.length + 1)) (pSt c x y i).1 (pSt c x y i).2) (partR c x y) := by
        refine Ev.step (fun k => ?_) hj2
        simp only [kimberliteref03_Part.j1]
        rw [if_neg (by simp)]
        by_cases h0 : ((pSt c x y i).2.length : Int) = 0
        · rw [if_pos h0, if_pos h0]
        · rw [if_neg h0, if_neg h0]
      refine Ev.step (fun k => ?_) hj
      simp only [kimberliteref03_Part.l0]
      rw [row_to h, Option.bind_some, if_pos (show c.f0 + (i : Int) ≤ c.f0 + (c.f2.length : Int) from hx.2), if_neg (by omega), decide_eq_false (by omega)]
theorem rpart_ev (c : S24) (x y : Int) : Ev (fun k => kimberliteref03_Part.f k c.f0 c.f1 c.f2 x y) (partR c x y) := by
  unfold kimberliteref03_Part.f
  refine Ev.bind (rvalid_ev c) ?_
  by_cases h : Vc c
  · refine Ev.congr (fun k => if_pos (decide_eq_true h)) (Ev.bind (out_ev h) ?_)
    have hl := rpart_loop h x y (c.f2.length + 1) 0 (by omega)
    have e0 : pSt c x y 0 = (0, []) := if_pos (.inr (by rw [mx_eq]; omega))
    rw [e0, show c.f0 + ((0 : Nat) : Int) = c.f0 by omega] at hl
    exact hl
  · have e : partR c x y = (0, 0, [], 2) := if_neg h
    rw [e]
    exact Ev.congr (f := fun _ => some _) (fun k => if_neg (by rw [decide_eq_true_eq]; exact h)) (Ev.now _)
structure Wd (n : Nat) (c : S24) : Prop where
  a0 : -(1048576 * (n : Int)) ≤ c.f0
  b0 : c.f0 ≤ 1048576 * (n : Int)
  a1 : -(1099511627776 * (n : Int)) ≤ c.f1
  b1 : c.f1 ≤ 1099511627776 * (n : Int)
  len : c.f2.length ≤ 64 * n
  sort : sortedI c.f2 = true
  slope : ∀ s ∈ c.f2, -1048576 ≤ s ∧ s ≤ 1048576
theorem wd_vc {c : S24} (h : Vc c) : Wd 1 c := by
  obtain ⟨h1, h2, h3, h4, h5, h6, h7⟩ := vc_parts h
  exact ⟨by omega, by omega, by omega, by omega, by omega, h6, h7⟩
theorem wd_join {n m : Nat} {a b : S24} (ha : Wd n a) (hb : Wd m b) : Wd (n + m) (joinC a b) := by
  have h1 := ha.a0
  have h2 := ha.b0
  have h3 := ha.a1
  have h4 := ha.b1
  have k1 := hb.a0
  have k2 := hb.b0
  have k3 := hb.a1
  have k4 := hb.b1
  have l1 := ha.len
  have l2 := hb.len
  have hl := joinC_len a b
  refine ⟨?_, ?_, ?_, ?_, ?_, sortL_sorted _, fun s hs => ?_⟩
  · show -(1048576 * ((n + m : Nat) : Int)) ≤ a.f0 + b.f0
    push_cast; omega
  · show a.f0 + b.f0 ≤ 1048576 * ((n + m : Nat) : Int)
    push_cast; omega
  · show -(1099511627776 * ((n + m : Nat) : Int)) ≤ a.f1 + b.f1
    push_cast; omega
  · show a.f1 + b.f1 ≤ 1099511627776 * ((n + m : Nat) : Int)
    push_cast; omega
  · omega
  · have hm : s ∈ a.f2 ++ b.f2 := (sortL_perm _).mem_iff.1 hs
    rcases List.mem_append.1 hm with h | h
    · exact ha.slope s h
    · exact hb.slope s h
theorem wd_val {n : Nat} {c : S24} (h : Wd n c) (x : Int) : -(1099578736640 * (n : Int)) ≤ valC c x ∧ valC c x ≤ 1099578736640 * (n : Int) := by
  have h3 := h.a1
  have h4 := h.b1
  have hl := h.len
  have := tot_bound (m := 1048576) (by decide) (l := c.f2.take (x - c.f0).toNat) fun s hs => h.slope s (List.mem_of_mem_take hs)
  have hk : ((c.f2.take (x - c.f0).toNat).length : Int) ≤ 64 * (n : Int) := by rw [List.length_take]; omega
  rw [valC_eq]
  omega
theorem row_to_w {n : Nat} {c : S24} (h : Wd n c) (hn : n ≤ 1000) : kimberliteref03_Row_To.f c.f0 (outL c (c.f2.length + 1)) = some (c.f0 + (c.f2.length : Int)) := by
  have h1 := h.a0
  have h2 := h.b0
  have hl := h.len
  unfold kimberliteref03_Row_To.f
  rw [outL_len]
  congr 1
  unfold wrap64
  omega
theorem row_value_w {n : Nat} {c : S24} (h : Wd n c) (hn : n ≤ 1000) {x : Int} (hx : inC c x) : kimberliteref03_Row_Value.f c.f0 (outL c (c.f2.length + 1)) x = some (valC c x) := by
  have h1 := h.a0
  have h2 := h.b0
  have hl := h.len
  obtain ⟨x1, x2⟩ := hx
  obtain ⟨k, hk⟩ := Int.eq_ofNat_of_zero_le (show 0 ≤ x - c.f0 by omega)
  have e : wrap64 (x - c.f0) = (k : Int) := by unfold wrap64; omega
  unfold kimberliteref03_Row_Value.f
  have hl := outL_len c (c.f2.length + 1)
  rw [e, if_pos (by omega), if_pos (by omega), outL_rd _ _ _ (by omega), ← hk]
  congr 2
  omega
theorem row_has_w {n : Nat} {c : S24} (h : Wd n c) (hn : n ≤ 1000) (x : Int) : kimberliteref03_Row_has.f c.f0 (outL c (c.f2.length + 1)) x = some (decide (inC c x)) := by
  unfold kimberliteref03_Row_has.f
  by_cases h1 : x ≥ c.f0
  · rw [if_pos h1, row_to_w h hn, Option.bind_some]
    congr 1
    apply decide_eq_decide.2
    exact ⟨fun h => ⟨h1, h⟩, fun h => h.2⟩
  · rw [if_neg h1, decide_eq_false (fun h : inC c x => h1 h.1)]
theorem jin_loop {n m : Nat} {a b : S24} (ha : Wd n a) (hb : Wd m b) (hn : n ≤ 100) (hm : m ≤ 100) {R : Int × List Int} {z : Int} (hz : inC (joinC a b) z) (g : Int) (acc : List Int) (hacc : acc.length ≤ 1000000)
    (hK : Ev (fun k => kimberliteref03_Joined.l0 k (wrap64 (z + 1)) a.f0 (outL a (a.f2.length + 1)) b.f0 (outL b (b.f2.length + 1)) g (acc ++ [valC (joinC a b) z])) R) :
    ∀ (d i : Nat) (best : Int) (some_ : Bool), i + d = a.f2.length + 1 → (some_ = true → valC (joinC a b) z ≤ best) → ((∃ y, a.f0 ≤ y ∧ y < a.f0 + (i : Int) ∧ inC b (z - y) ∧ valC a y + valC b (z - y) = valC (joinC a b) z) → some_ = true ∧ best = valC (joinC a b) z) →
      Ev (fun k => kimberliteref03_Joined.l1 k z best some_ (a.f0 + (i : Int)) a.f0 (outL a (a.f2.length + 1)) b.f0 (outL b (b.f2.length + 1)) g acc) R
  | 0, i, best, some_, hi, hA, hB => by
    obtain ⟨y, hy1, hy2, hy3⟩ := join_met ha.sort hb.sort hz
    obtain ⟨_, rfl⟩ := hB ⟨y, hy1.1, by have := hy1.2; omega, hy2, hy3⟩
    refine Ev.step (fun k => ?_) hK
    simp only [kimberliteref03_Joined.l1]
    rw [row_to_w ha (by omega), Option.bind_some, if_neg (by omega), if_pos (by omega)]
  | d + 1, i, best, some_, hi, hA, hB => by
    have h1 := ha.a0
    have h2 := ha.b0
    have h3 := ha.len
    have k1 := hb.a0
    have k2 := hb.b0
    have k3 := hb.len
    obtain ⟨z1, z2⟩ := hz
    have hJ0 : (joinC a b).f0 = a.f0 + b.f0 := rfl
    have hJl := joinC_len a b
    rw [hJ0] at z1 z2
    rw [hJl] at z2
    have ew : wrap64 (a.f0 + (i : Int) + 1) = a.f0 + ((i + 1 : Nat) : Int) := by unfold wrap64; omega
    have ez : wrap64 (z - (a.f0 + (i : Int))) = z - (a.f0 + (i : Int)) := by unfold wrap64; push_cast at z2; omega
    have hin : inC a (a.f0 + (i : Int)) := by unfold inC; omega
    by_cases hq : inC b (z - (a.f0 + (i : Int)))
    · have v1 := wd_val ha (a.f0 + (i : Int))
      have v2 := wd_val hb (z - (a.f0 + (i : Int)))
      have ev : wrap64 (valC a (a.f0 + (i : Int)) + valC b (z - (a.f0 + (i : Int)))) = valC a (a.f0 + (i : Int)) + valC b (z - (a.f0 + (i : Int))) := by unfold wrap64; omega
      have hle := join_le hin hq
      rw [show a.f0 + (i : Int) + (z - (a.f0 + (i : Int))) = z by omega] at hle
      have hor : ∀ y : Int, y < a.f0 + ((i + 1 : Nat) : Int) → y < a.f0 + (i : Int) ∨ y = a.f0 + (i : Int) := fun y hy => by omega
      -- taken
      have taken : Ev (fun k => kimberliteref03_Joined.j2 k z best some_ (a.f0 + (i : Int)) (valC a (a.f0 + (i : Int)) + valC b (z - (a.f0 + (i : Int)))) true a.f0 (outL a (a.f2.length + 1)) b.f0 (outL b (b.f2.length + 1)) g acc) R ∨ (some_ = true ∧ best ≤ valC a (a.f0 + (i : Int)) + valC b (z - (a.f0 + (i : Int)))) := by
        by_cases hc : some_ = true ∧ best ≤ valC a (a.f0 + (i : Int)) + valC b (z - (a.f0 + (i : Int)))
        · exact .inr hc
        · refine .inl ?_
          have ih := jin_loop ha hb hn hm ⟨by rw [hJ0]; exact z1, by rw [hJ0, hJl]; exact z2⟩ g acc hacc hK d (i + 1) (valC a (a.f0 + (i : Int)) + valC b (z - (a.f0 + (i : Int)))) true (by omega) (fun _ => hle) (fun ⟨y, y1, y2, y3, y4⟩ => ⟨rfl, by
            rcases hor y y2 with hlt | rfl
            · obtain ⟨s1, s2⟩ := hB ⟨y, y1, hlt, y3, y4⟩
              exact absurd ⟨s1, by omega⟩ hc
            · exact y4⟩)
          refine Ev.step (fun k => ?_) ih
          simp only [kimberliteref03_Joined.j2]
          rw [if_pos trivial, ew]
      have left : some_ = true → best ≤ valC a (a.f0 + (i : Int)) + valC b (z - (a.f0 + (i : Int))) → Ev (fun k => kimberliteref03_Joined.j2 k z best some_ (a.f0 + (i : Int)) (valC a (a.f0 + (i : Int)) + valC b (z - (a.f0 + (i : Int)))) false a.f0 (outL a (a.f2.length + 1)) b.f0 (outL b (b.f2.length + 1)) g acc) R := fun s1 s2 => by
        have hA' := hA s1
        have ih := jin_loop ha hb hn hm ⟨by rw [hJ0]; exact z1, by rw [hJ0, hJl]; exact z2⟩ g acc hacc hK d (i + 1) best some_ (by omega) hA (fun ⟨y, y1, y2, y3, y4⟩ => by
          rcases hor y y2 with hlt | rfl
          · exact hB ⟨y, y1, hlt, y3, y4⟩
          · exact ⟨s1, by omega⟩)
        refine Ev.step (fun k => ?_) ih
        simp only [kimberliteref03_Joined.j2]
        rw [if_neg (by simp), ew]
      cases hs : some_ with
      | false =>
        rw [hs] at taken
        rcases taken with ht | ⟨ht, _⟩
        · refine Ev.step (fun k => ?_) ht
          simp only [kimberliteref03_Joined.l1]
          rw [row_to_w ha (by omega), Option.bind_some, if_pos (show a.f0 + (i : Int) ≤ a.f0 + (a.f2.length : Int) from hin.2), ez, row_has_w hb (by omega), Option.bind_some, if_pos (decide_eq_true hq), row_value_w ha (by omega) hin, Option.bind_some, row_value_w hb (by omega) hq, Option.bind_some, if_neg (by simp), ev]
        · cases ht
      | true =>
        rw [hs] at taken left
        by_cases hc : valC a (a.f0 + (i : Int)) + valC b (z - (a.f0 + (i : Int))) < best
        · rcases taken with ht | ⟨_, ht⟩
          · refine Ev.step (fun k => ?_) ht
            simp only [kimberliteref03_Joined.l1]
            rw [row_to_w ha (by omega), Option.bind_some, if_pos (show a.f0 + (i : Int) ≤ a.f0 + (a.f2.length : Int) from hin.2), ez, row_has_w hb (by omega), Option.bind_some, if_pos (decide_eq_true hq), row_value_w ha (by omega) hin, Option.bind_some, row_value_w hb (by omega) hq, Option.bind_some, if_pos trivial, ev, decide_eq_true hc]
          · omega
        · refine Ev.step (fun k => ?_) (left rfl (by omega))
          simp only [kimberliteref03_Joined.l1]
          rw [row_to_w ha (by omega), Option.bind_some, if_pos (show a.f0 + (i : Int) ≤ a.f0 + (a.f2.length : Int) from hin.2), ez, row_has_w hb (by omega), Option.bind_some, if_pos (decide_eq_true hq), row_value_w ha (by omega) hin, Option.bind_some, row_value_w hb (by omega) hq, Option.bind_some, if_pos trivial, ev, decide_eq_false hc]
    · have ih := jin_loop ha hb hn hm ⟨by rw [hJ0]; exact z1, by rw [hJ0, hJl]; exact z2⟩ g acc hacc hK d (i + 1) best some_ (by omega) hA (fun ⟨y, y1, y2, y3, y4⟩ => by
        rcases (show y < a.f0 + (i : Int) ∨ y = a.f0 + (i : Int) by omega) with hlt | rfl
        · exact hB ⟨y, y1, hlt, y3, y4⟩
        · exact absurd y3 hq)
      refine Ev.step (fun k => ?_) ih
      simp only [kimberliteref03_Joined.l1]
      rw [row_to_w ha (by omega), Option.bind_some, if_pos (show a.f0 + (i : Int) ≤ a.f0 + (a.f2.length : Int) from hin.2), ez, row_has_w hb (by omega), Option.bind_some, if_neg (by rw [decide_eq_true_eq]; exact hq), ew]
theorem joined_loop {n m : Nat} {a b : S24} (ha : Wd n a) (hb : Wd m b) (hn : n ≤ 100) (hm : m ≤ 100) : ∀ d i : Nat, i + d = (joinC a b).f2.length + 1 →
    Ev (fun k => kimberliteref03_Joined.l0 k ((joinC a b).f0 + (i : Int)) a.f0 (outL a (a.f2.length + 1)) b.f0 (outL b (b.f2.length + 1)) (joinC a b).f0 (outL (joinC a b) i)) ((joinC a b).f0, outL (joinC a b) ((joinC a b).f2.length + 1))
  | 0, i, hi => by
    have h1 := ha.a0
    have h2 := ha.b0
    have h3 := ha.len
    have k1 := hb.a0
    have k2 := hb.b0
    have k3 := hb.len
    have hJ0 : (joinC a b).f0 = a.f0 + b.f0 := rfl
    have hJl := joinC_len a b
    have ew : wrap64 (a.f0 + (a.f2.length : Int) + (b.f0 + (b.f2.length : Int))) = a.f0 + (a.f2.length : Int) + (b.f0 + (b.f2.length : Int)) := by unfold wrap64; omega
    have e : i = (joinC a b).f2.length + 1 := by omega
    rw [← e]
    refine Ev.step (f := fun _ => some ((joinC a b).f0, outL (joinC a b) i)) (fun k => ?_) (Ev.now _)
    simp only [kimberliteref03_Joined.l0]
    rw [row_to_w ha (by omega), Option.bind_some, row_to_w hb (by omega), Option.bind_some, ew, if_neg (by rw [hJ0]; omega)]
  | d + 1, i, hi => by
    have h1 := ha.a0
    have h2 := ha.b0
    have h3 := ha.len
    have k1 := hb.a0
    have k2 := hb.b0
    have k3 := hb.len
    have hJ0 : (joinC a b).f0 = a.f0 + b.f0 := rfl
    have hJl := joinC_len a b
    have ew : wrap64 (a.f0 + (a.f2.length : Int) + (b.f0 + (b.f2.length : Int))) = a.f0 + (a.f2.length : Int) + (b.f0 + (b.f2.length : Int)) := by unfold wrap64; omega
    have ih := joined_loop ha hb hn hm d (i + 1) (by omega)
    have hz : inC (joinC a b) ((joinC a b).f0 + (i : Int)) := by unfold inC; omega
    have e1 : wrap64 ((joinC a b).f0 + (i : Int) + 1) = (joinC a b).f0 + ((i + 1 : Nat) : Int) := by rw [hJ0]; unfold wrap64; omega
    rw [outL_succ (joinC a b) i, ← e1] at ih
    have hj := jin_loop ha hb hn hm hz (joinC a b).f0 (outL (joinC a b) i) (by rw [outL_len]; omega) ih (a.f2.length + 1) 0 0 false (by omega) (fun h => by cases h) (fun ⟨y, y1, y2, _⟩ => by omega)
    rw [show a.f0 + ((0 : Nat) : Int) = a.f0 by omega] at hj
    refine Ev.step (fun k => ?_) hj
    simp only [kimberliteref03_Joined.l0]
    rw [row_to_w ha (by omega), Option.bind_some, row_to_w hb (by omega), Option.bind_some, ew, if_pos (by rw [hJ0]; omega)]
theorem joined_ev {n m : Nat} {a b : S24} (ha : Wd n a) (hb : Wd m b) (hn : n ≤ 100) (hm : m ≤ 100) : Ev (fun k => kimberliteref03_Joined.f k a.f0 (outL a (a.f2.length + 1)) b.f0 (outL b (b.f2.length + 1))) ((joinC a b).f0, outL (joinC a b) ((joinC a b).f2.length + 1)) := by
  have h1 := ha.a0
  have h2 := ha.b0
  have k1 := hb.a0
  have k2 := hb.b0
  have hJ0 : (joinC a b).f0 = a.f0 + b.f0 := rfl
  have hl := joined_loop ha hb hn hm ((joinC a b).f2.length + 1) 0 (by omega)
  rw [show (joinC a b).f0 + ((0 : Nat) : Int) = (joinC a b).f0 by omega, nil_out] at hl
  unfold kimberliteref03_Joined.f
  have e : wrap64 (a.f0 + b.f0) = (joinC a b).f0 := by rw [hJ0]; unfold wrap64; omega
  rw [e]
  exact hl
end Go.Proofs.Ytingjpcgehgiiaa.Pr
end
section
namespace Go.Proofs.Ytingjpcgehgiiaa.Pr
open Go.RowKit Go.Proofs.YtingjpcgehgiiaaW.PrintWords Go.Proofs.YtingjpcgehgiiaaW.PrintLast Go.Proofs.YtingjpcgehgiiaaW.PrintMore
set_option linter.unusedVariables false
set_option linter.unusedSimpArgs false
theorem rjoin_ev (a b : S24) : Ev (fun k => kimberliteref03_Join.f k a.f0 a.f1 a.f2 b.f0 b.f1 b.f2) (joinR a.f0 a.f1 a.f2 b.f0 b.f1 b.f2) := by
  have bad : Ev (fun k => kimberliteref03_Join.j0 k true a.f0 a.f1 a.f2 b.f0 b.f1 b.f2) (0, 0, [], 2) := by
    refine Ev.step (f := fun _ => some (0, 0, [], 2)) (fun k => ?_) (Ev.now _)
    simp only [kimberliteref03_Join.j0]
    rfl
  unfold kimberliteref03_Join.f
  refine Ev.bind (rvalid_ev a) ?_
  by_cases ha : Vc a
  · refine Ev.congr (fun k => if_pos (decide_eq_true ha)) (Ev.bind (rvalid_ev b) ?_)
    by_cases hb : Vc b
    · rw [decide_eq_true hb, joinR_eq ha hb]
      have wa := wd_vc ha
      have wb := wd_vc hb
      have wj := wd_join wa wb
      have hr := ranged_out (d := joinC a b) (by have := wj.len; omega) (fun s hs => by have := wj.slope s hs; omega)
      refine Ev.step (f := fun k => (kimberliteref03_Out.f k a.f0 a.f1 a.f2).bind fun bt253 => ((kimberliteref03_Out.f k b.f0 b.f1 b.f2).bind fun bt257 => ((kimberliteref03_Joined.f k bt253.1 bt253.2 bt257.1 bt257.2).bind fun bt261 => ((kimberliteref03_ranged.f k bt261.1 bt261.2).bind fun bt265 => (some (bt265.1, bt265.2.1, bt265.2.2.1, bt265.2.2.2)))))) (fun k => ?_) (Ev.bind (out_ev ha) (Ev.bind (out_ev hb) (Ev.bind (joined_ev wa wb (by omega) (by omega)) (Ev.bind hr (Ev.now (madeR (joinC a b)))))))
      simp only [kimberliteref03_Join.j0]
      rw [if_neg (by simp)]
    · rw [decide_eq_false hb, joinR_arg (fun h => hb h.2)]
      exact bad
  · rw [joinR_arg (fun h => ha h.1)]
    exact Ev.congr (fun k => if_neg (by rw [decide_eq_true_eq]; exact ha)) bad
theorem add_mem {l m : List Int} (h1 : ∀ s ∈ l, -1048576 ≤ s ∧ s ≤ 1048576) (h2 : ∀ s ∈ m, -1048576 ≤ s ∧ s ≤ 1048576) : ∀ s ∈ List.zipWith (fun x y => x + y) l m, -4194304 ≤ s ∧ s ≤ 4194304 := by
  intro s hs
  rw [List.mem_iff_getElem] at hs
  obtain ⟨i, hi, rfl⟩ := hs
  rw [List.length_zipWith] at hi
  rw [List.getElem_zipWith]
  have a1 := h1 (l[i]'(by omega)) (List.getElem_mem _)
  have a2 := h2 (m[i]'(by omega)) (List.getElem_mem _)
  omega
theorem radd_loop {a b : S24} (ha : Vc a) (hb : Vc b) {lo hi : Int} (i1 : inC a lo) (i2 : inC a hi) (i3 : inC b lo) (i4 : inC b hi) (i5 : lo ≤ hi) : ∀ n i : Nat, lo + (i : Int) + (n : Int) = hi + 1 →
    Ev (fun k => kimberliteref03_Add.l0 k hi (lo + (i : Int)) a.f0 (outL a (a.f2.length + 1)) b.f0 (outL b (b.f2.length + 1)) lo (outL (addC a b lo hi) i)) (madeR (addC a b lo hi))
  | 0, i, hh => by
    obtain ⟨e1, e2⟩ := addC_len i1 i2 i3 i4 i5
    obtain ⟨h1, h2, h3, h4, h5, _, h7⟩ := vc_parts ha
    obtain ⟨k1, k2, k3, k4, k5, _, k7⟩ := vc_parts hb
    have el : (addC a b lo hi).f2.length = (hi - lo).toNat := by
      unfold addC
      simp only
      rw [List.length_zipWith]
      omega
    have hr := ranged_out (d := addC a b lo hi) (by rw [el]; unfold inC at i1 i2; omega) (add_mem (fun s hs => h7 s (sub_mem hs)) (fun s hs => k7 s (sub_mem hs)))
    rw [el, show (hi - lo).toNat + 1 = i by omega] at hr
    refine Ev.step (fun k => ?_) (Ev.bind hr (Ev.now (madeR (addC a b lo hi))))
    simp only [kimberliteref03_Add.l0]
    rw [if_neg (by omega)]
    rfl
  | n + 1, i, hh => by
    obtain ⟨h1, h2, h3, h4, h5, _, h7⟩ := vc_parts ha
    obtain ⟨k1, k2, k3, k4, k5, _, k7⟩ := vc_parts hb
    have ih := radd_loop ha hb i1 i2 i3 i4 i5 n (i + 1) (by omega)
    have j1 : inC a (lo + (i : Int)) := by unfold inC at *; omega
    have j2 : inC b (lo + (i : Int)) := by unfold inC at *; omega
    have ew : wrap64 (lo + (i : Int) + 1) = lo + ((i + 1 : Nat) : Int) := by unfold inC at j1; unfold wrap64; omega
    have b1 := val_bound ha (lo + (i : Int))
    have b2 := val_bound hb (lo + (i : Int))
    have ev : wrap64 (valC a (lo + (i : Int)) + valC b (lo + (i : Int))) = valC a (lo + (i : Int)) + valC b (lo + (i : Int)) := by unfold wrap64; omega
    have hv : valC (addC a b lo hi) ((addC a b lo hi).f0 + (i : Int)) = valC a (lo + (i : Int)) + valC b (lo + (i : Int)) := val_add i1 i2 i3 i4 (by show lo ≤ lo + (i : Int) ∧ lo + (i : Int) ≤ hi; omega)
    refine Ev.step (fun k => ?_) ih
    simp only [kimberliteref03_Add.l0]
    rw [if_pos (by omega), row_value ha j1, Option.bind_some, row_value hb j2, Option.bind_some, if_pos (by rw [outL_len]; unfold inC at *; omega), ew, ev, outL_succ (addC a b lo hi) i, hv]
theorem addR_eq {a b : S24} (ha : Vc a) (hb : Vc b) : addR a b = if mn (toC a) (toC b) < mx a.f0 b.f0 then (0, 0, [], 6) else madeR (addC a b (mx a.f0 b.f0) (mn (toC a) (toC b))) := by
  have e : (validC a.f0 a.f1 a.f2 && validC b.f0 b.f1 b.f2) = true := by rw [Bool.and_eq_true]; exact ⟨ha, hb⟩
  exact if_pos e
theorem addR_bad {a b : S24} (h : ¬(Vc a ∧ Vc b)) : addR a b = (0, 0, [], 2) := by
  unfold addR
  rw [if_neg]
  rw [Bool.and_eq_true]
  exact h
theorem radd_ev (a b : S24) : Ev (fun k => kimberliteref03_Add.f k a.f0 a.f1 a.f2 b.f0 b.f1 b.f2) (addR a b) := by
  have bad : Ev (fun k => kimberliteref03_Add.j0 k true a.f0 a.f1 a.f2 b.f0 b.f1 b.f2) (0, 0, [], 2) := by
    refine Ev.step (f := fun _ => some (0, 0, [], 2)) (fun k => ?_) (Ev.now _)
    simp only [kimberliteref03_Add.j0]
    rfl
  unfold kimberliteref03_Add.f
  refine Ev.bind (rvalid_ev a) ?_
  by_cases ha : Vc a
  · refine Ev.congr (fun k => if_pos (decide_eq_true ha)) (Ev.bind (rvalid_ev b) ?_)
    by_cases hb : Vc b
    · rw [decide_eq_true hb, addR_eq ha hb]
      refine Ev.step (f := fun k => (kimberliteref03_Out.f k a.f0 a.f1 a.f2).bind fun bt211 => ((kimberliteref03_Out.f k b.f0 b.f1 b.f2).bind fun bt215 => ((kimberliteref03_Row_To.f bt211.1 bt211.2).bind fun t221 => ((kimberliteref03_Row_To.f bt215.1 bt215.2).bind fun t222 => (if (mx bt211.1 bt215.1) > (mn t221 t222) then (some (0, 0, ([] : List Int), 6)) else (kimberliteref03_Add.l0 k (mn t221 t222) (mx bt211.1 bt215.1) bt211.1 bt211.2 bt215.1 bt215.2 (mx bt211.1 bt215.1) ([] : List Int))))))) (fun k => ?_) (Ev.bind (out_ev ha) (Ev.bind (out_ev hb) ?_))
      · simp only [kimberliteref03_Add.j0]
        rw [if_neg (by simp)]
      · simp only
        rw [row_to ha, row_to hb]
        refine Ev.congr (fun k => Option.bind_some _ _) (Ev.congr (fun k => Option.bind_some _ _) ?_)
        show Ev (fun k => if mx a.f0 b.f0 > mn (toC a) (toC b) then _ else kimberliteref03_Add.l0 k (mn (toC a) (toC b)) (mx a.f0 b.f0) a.f0 (outL a (a.f2.length + 1)) b.f0 (outL b (b.f2.length + 1)) (mx a.f0 b.f0) []) _
        by_cases hg : mn (toC a) (toC b) < mx a.f0 b.f0
        · rw [if_pos hg]
          exact Ev.congr (f := fun _ => some (0, 0, [], 6)) (fun k => if_pos hg) (Ev.now _)
        · rw [if_neg hg]
          obtain ⟨i1, i2, i3, i4, i5⟩ := add_in ha hb hg
          have hl := radd_loop ha hb i1 i2 i3 i4 i5 (mn (toC a) (toC b) + 1 - mx a.f0 b.f0).toNat 0 (by omega)
          rw [show mx a.f0 b.f0 + ((0 : Nat) : Int) = mx a.f0 b.f0 by omega, nil_out] at hl
          exact Ev.congr (fun k => if_neg hg) hl
    · rw [decide_eq_false hb, addR_bad (fun h => hb h.2)]
      exact bad
  · rw [addR_bad (fun h => ha h.1)]
    exact Ev.congr (fun k => if_neg (by rw [decide_eq_true_eq]; exact ha)) bad
end Go.Proofs.Ytingjpcgehgiiaa.Pr
end
section
namespace Go.Proofs.Ytingjpcgehgiiaa.Pr
open Go.RowKit Go.Shelf Go.Proofs.YtingjpcgehgiiaaW.PrintWords Go.Proofs.YtingjpcgehgiiaaW.PrintLast Go.Proofs.YtingjpcgehgiiaaW.PrintMore
attribute [local go_sem] max2_int min2_int max_two min_two max_three min_three max_four min_four
set_option linter.unusedVariables false
set_option linter.unusedSimpArgs false
theorem bca_ {w w' : World} {a : Addr} {v : Value} (hb : Below w.heap.size w w') (h : w.cell? a = some v) : w'.cell? a = some v := (hb.cell (World.block_lt_of_cell? _ _ h)).trans h
theorem bca6 {w w' : World} {a b c d e f : Addr} {x y z u v t : Value} (hb : Below w.heap.size w w') (h : w.cell? a = some x ∧ w.cell? b = some y ∧ w.cell? c = some z ∧ w.cell? d = some u ∧ w.cell? e = some v ∧ w.cell? f = some t) :
    w'.cell? a = some x ∧ w'.cell? b = some y ∧ w'.cell? c = some z ∧ w'.cell? d = some u ∧ w'.cell? e = some v ∧ w'.cell? f = some t := ⟨bca_ hb h.1, bca_ hb h.2.1, bca_ hb h.2.2.1, bca_ hb h.2.2.2.1, bca_ hb h.2.2.2.2.1, bca_ hb h.2.2.2.2.2⟩
def add_T6 : Bool × List (List Nat × List Nat) := (true, [([], []), ([], []), ([], []), ([0, 1, 2], [0, 1, 2]), ([], []), ([], []), ([], []), ([4, 5, 6, 3], [4, 5, 6]), ([], []), ([], []), ([8, 3, 7, 0, 1, 2, 3, 8, 9], [3, 8]), ([9, 7, 10, 0, 1, 2, 3, 4, 5, 6, 7, 8, 9, 10], [7, 9])])
def add_B6 : List Nat := [0, 0, 0, 7, 0, 0, 0, 127, 0, 0, 1023, 2047]
theorem add_tab6 : rtab .any (opsOf Try.f38 6) = add_T6 := by kernel_rfl
theorem add_bits6 : waitsOk add_T6.2 add_B6 = true := by kernel_rfl
theorem add_in' {a b : S24} (h : ¬mn (toC a) (toC b) < mx a.f0 b.f0) : inC a (mx a.f0 b.f0) ∧ inC a (mn (toC a) (toC b)) ∧ inC b (mx a.f0 b.f0) ∧ inC b (mn (toC a) (toC b)) ∧ mx a.f0 b.f0 ≤ mn (toC a) (toC b) := by
  rw [mx_eq, mn_eq] at *; unfold inC toC at *
  omega
theorem sub_same {a b : S24} {lo hi : Int} (h1 : inC a lo) (h2 : inC a hi) (h3 : inC b lo) (h4 : inC b hi) (h5 : lo ≤ hi) : (sub a lo hi).length = (sub b lo hi).length := by
  rw [sub_len h1 h2, sub_len h3 h4]; unfold inC at *
  omega
set_option maxHeartbeats 8000000 in
set_option maxRecDepth 100000 in
theorem curve_Add.calls (k : Nat) (a0_0 a0_1 : Int) (A0_2 : Option Addr) (c0_2 : Nat) (l0_2 : List Int) (a1_0 a1_1 : Int) (A1_2 : Option Addr) (c1_2 : Nat) (l1_2 : List Int) (r1 r2 : Int) (r3 : List Int) (r4 : Int) (w : World) (hr0_2 : Kd.C (Kd.int .i64) w A0_2 l0_2.length l0_2) (hc0_2 : l0_2.length ≤ c0_2) (hr1_2 : Kd.C (Kd.int .i64) w A1_2 l1_2.length l1_2) (hc1_2 : l1_2.length ≤ c1_2) (h : curve_Add.f k a0_0 a0_1 l0_2 a1_0 a1_1 l1_2 = some (r1, r2, r3, r4)) :
    Calls Try.prog 38 #[.agg #[.int .i64 a0_0, .int .i64 a0_1, .slice A0_2 l0_2.length c0_2], .agg #[.int .i64 a1_0, .int .i64 a1_1, .slice A1_2 l1_2.length c1_2]] w fun e w' => ∃ v_ : Value, e = .returned (.tuple #[.agg #[.int .i64 r1, .int .i64 r2, v_], .int .i64 r4]) ∧ Kd.R (Kd.int .i64) 3 w' w.heap.size (fun _ => True) v_ r3 ∧ Below w.heap.size w w' := by
  have hj : (if (validC a0_0 a0_1 l0_2 && validC a1_0 a1_1 l1_2) = true then addOk ⟨a0_0, a0_1, l0_2⟩ ⟨a1_0, a1_1, l1_2⟩ else (0, 0, [], 2)) = (r1, r2, r3, r4) := Option.some.inj h; have HR0 := Aside0.mk hr0_2; have HR1 := Aside0.mk hr1_2; have HC0 := Aside0.mk hc0_2; have HC1 := Aside0.mk hc1_2; have hu24 := Try.underlying24; have V0 := Aside0.mk (show curve_Valid.f a0_0 a0_1 l0_2 = some (validC a0_0 a0_1 l0_2) from rfl); have V1 := Aside0.mk (show curve_Valid.f a1_0 a1_1 l1_2 = some (validC a1_0 a1_1 l1_2) from rfl); have L0 := Aside0.mk (fun h => @adf_of a0_0 a0_1 l0_2 h); have L1 := Aside0.mk (fun h => @adf_of a1_0 a1_1 l1_2 h); have HJ := Aside0.mk hj; clear h hj hr0_2 hr1_2 hc0_2 hc1_2; generalize validC a0_0 a0_1 l0_2 = b0 at V0 L0 HJ; generalize validC a1_0 a1_1 l1_2 = b1 at V1 L1 HJ; go_enter Try.func38, Try.ntmps38
  go_wp2_with (first | ((with_reducible refine gate_dst (N := 2) rfl ?_); refine box_event ?hg (N := 2) ?hd (cs := #[.int .i64 a0_0, .int .i64 a0_1, .slice A0_2 l0_2.length c0_2]) (t := 24) ?hr ?_; (case hd => rfl); (case hg => rfl); (case hr => first | (go_simp; done) | (go_simp; rfl)); intro g2 hg w1 hbox hb; have HB1 := Aside0.mk hb; have BKa1 := Aside0.mk hbox; clear hb hg hbox) | ((with_reducible refine gate_dst (N := 3) rfl ?_); refine box_event ?hg (N := 3) ?hd (cs := #[.int .i64 a1_0, .int .i64 a1_1, .slice A1_2 l1_2.length c1_2]) (t := 24) ?hr ?_; (case hd => rfl); (case hg => rfl); (case hr => first | (go_simp; done) | (go_simp; rfl)); intro g3 hg w2 hbox hb; have HB2 := Aside0.mk (below_then HB1.out HB1.out.size hb); have BKa2 := Aside0.mk (blk_below BKa1.out hb); have BKb2 := Aside0.mk hbox; clear hb hg hbox HB1 BKa1) | ((with_reducible refine gate_dst (N := 4) rfl ?_); refine box_event ?hg (N := 4) ?hd (cs := #[.int .i64 0, .int .i64 0, .slice none 0 0]) (t := 24) ?hr ?_; (case hd => rfl); (case hg => rfl); (case hr => first | (go_simp; done) | (go_simp; rfl)); intro g4 hg w3 hbox hb; have HB3 := Aside0.mk (below_then HB2.out HB2.out.size hb); have BKa3 := Aside0.mk (blk_below BKa2.out hb); have BKb3 := Aside0.mk (blk_below BKb2.out hb); have BKc3 := Aside0.mk hbox; have GE := Aside0.mk (show w.heap.size ≤ g4 by rw [hg]; exact HB2.out.size); clear hb hg hbox HB2 BKa2 BKb2; have hx0 : w3.cell? ⟨g2, 0, none⟩ = some (.int .i64 a0_0) := (blk_cell BKa3.out 0).trans rfl; have hx1 : w3.cell? ⟨g2, 1, none⟩ = some (.int .i64 a0_1) := (blk_cell BKa3.out 1).trans rfl; have hx2 : w3.cell? ⟨g2, 2, none⟩ = some (.slice A0_2 l0_2.length c0_2) := (blk_cell BKa3.out 2).trans rfl))
  go_wp2_with (go_at_call 16; (with_reducible refine (curve_Valid.calls a0_0 a0_1 _ _ l0_2 _ _ (Kd.C_below HR0.out HB3.out) HC0.out V0.out).mono ?_); rintro e w4 ⟨rfl, hb4⟩; have HB4 := Aside0.mk (below_then HB3.out HB3.out.size hb4); have BKa4 := Aside0.mk (blk_below BKa3.out hb4); have BKb4 := Aside0.mk (blk_below BKb3.out hb4); have BKc4 := Aside0.mk (blk_below BKc3.out hb4); clear hb4 HB3 BKa3 BKb3 BKc3 hx0 hx1 hx2; have hy0 : w4.cell? ⟨g3, 0, none⟩ = some (.int .i64 a1_0) := (blk_cell BKb4.out 0).trans rfl; have hy1 : w4.cell? ⟨g3, 1, none⟩ = some (.int .i64 a1_1) := (blk_cell BKb4.out 1).trans rfl; have hy2 : w4.cell? ⟨g3, 2, none⟩ = some (.slice A1_2 l1_2.length c1_2) := (blk_cell BKb4.out 2).trans rfl; have hz0 : w4.cell? ⟨g4, 0, none⟩ = some (.int .i64 0) := (blk_cell BKc4.out 0).trans rfl; have hf0 := blk_frozen BKc4.out 0; have hz1 : w4.cell? ⟨g4, 1, none⟩ = some (.int .i64 0) := (blk_cell BKc4.out 1).trans rfl; have hf1 := blk_frozen BKc4.out 1; have hz2 : w4.cell? ⟨g4, 2, none⟩ = some (.slice none 0 0) := (blk_cell BKc4.out 2).trans rfl; have hf2 := blk_frozen BKc4.out 2; cases b0)
  · go_wp2
    obtain ⟨e1, e2, e3⟩ := store_curve (x := 0) (y := 0) (v := .slice none 0 0) HB4.out GE.out BKc4.out (Kd.R_nil _ _ _ _ _); obtain ⟨rfl, rfl, rfl, rfl⟩ : 0 = r1 ∧ 0 = r2 ∧ [] = r3 ∧ 2 = r4 := by have h := HJ.out; simpa using h
    refine bodyPost_ret (results_ct rfl _ _ g4 24 _ (0, 0) _ rfl e1 Try.underlying24 rfl (by kernel_rfl)) rfl ?_; exact ⟨_, rfl, e2, e3⟩
  · go_wp2_with (go_at_call 16; (with_reducible refine (curve_Valid.calls a1_0 a1_1 _ _ l1_2 _ _ (Kd.C_below HR1.out HB4.out) HC1.out V1.out).mono ?_); rintro e w5 ⟨rfl, hb5⟩; have HB5 := Aside0.mk (below_then HB4.out HB4.out.size hb5); have BKa5 := Aside0.mk (blk_below BKa4.out hb5); have BKb5 := Aside0.mk (blk_below BKb4.out hb5); have BKc5 := Aside0.mk (blk_below BKc4.out hb5); clear hb5 HB4 BKa4 BKb4 BKc4 hy0 hy1 hy2 hz0 hz1 hz2 hf0 hf1 hf2; have hx0 : w5.cell? ⟨g2, 0, none⟩ = some (.int .i64 a0_0) := (blk_cell BKa5.out 0).trans rfl; have hx1 : w5.cell? ⟨g2, 1, none⟩ = some (.int .i64 a0_1) := (blk_cell BKa5.out 1).trans rfl; have hx2 : w5.cell? ⟨g2, 2, none⟩ = some (.slice A0_2 l0_2.length c0_2) := (blk_cell BKa5.out 2).trans rfl; have hy0 : w5.cell? ⟨g3, 0, none⟩ = some (.int .i64 a1_0) := (blk_cell BKb5.out 0).trans rfl; have hy1 : w5.cell? ⟨g3, 1, none⟩ = some (.int .i64 a1_1) := (blk_cell BKb5.out 1).trans rfl; have hy2 : w5.cell? ⟨g3, 2, none⟩ = some (.slice A1_2 l1_2.length c1_2) := (blk_cell BKb5.out 2).trans rfl; have hz0 : w5.cell? ⟨g4, 0, none⟩ = some (.int .i64 0) := (blk_cell BKc5.out 0).trans rfl; have hf0 := blk_frozen BKc5.out 0; have hz1 : w5.cell? ⟨g4, 1, none⟩ = some (.int .i64 0) := (blk_cell BKc5.out 1).trans rfl; have hf1 := blk_frozen BKc5.out 1; have hz2 : w5.cell? ⟨g4, 2, none⟩ = some (.slice none 0 0) := (blk_cell BKc5.out 2).trans rfl; have hf2 := blk_frozen BKc5.out 2; cases b1)
    · go_wp2
      obtain ⟨e1, e2, e3⟩ := store_curve (x := 0) (y := 0) (v := .slice none 0 0) HB5.out GE.out BKc5.out (Kd.R_nil _ _ _ _ _); obtain ⟨rfl, rfl, rfl, rfl⟩ : 0 = r1 ∧ 0 = r2 ∧ [] = r3 ∧ 2 = r4 := by have h := HJ.out; simpa using h
      refine bodyPost_ret (results_ct rfl _ _ g4 24 _ (0, 0) _ rfl e1 Try.underlying24 rfl (by kernel_rfl)) rfl ?_; exact ⟨_, rfl, e2, e3⟩
    · have P0 := Aside0.mk (L0.out (by first | trivial | rfl)); have P1 := Aside0.mk (L1.out (by first | trivial | rfl)); have HJ2 := Aside0.mk (show addOk ⟨a0_0, a0_1, l0_2⟩ ⟨a1_0, a1_1, l1_2⟩ = (r1, r2, r3, r4) by have h := HJ.out; simpa using h); clear HJ L0 L1; have gz0_ : ∀ p : Bel w5, p.W.cell? ⟨g2, 0, none⟩ = some (.int .i64 a0_0) := Bel.cell hx0; have gz1_ : ∀ p : Bel w5, p.W.cell? ⟨g2, 1, none⟩ = some (.int .i64 a0_1) := Bel.cell hx1; have gz2_ : ∀ p : Bel w5, p.W.cell? ⟨g2, 2, none⟩ = some (.slice A0_2 l0_2.length c0_2) := Bel.cell hx2; have gz3_ : ∀ p : Bel w5, p.W.cell? ⟨g3, 0, none⟩ = some (.int .i64 a1_0) := Bel.cell hy0; have gz4_ : ∀ p : Bel w5, p.W.cell? ⟨g3, 1, none⟩ = some (.int .i64 a1_1) := Bel.cell hy1; have gz5_ : ∀ p : Bel w5, p.W.cell? ⟨g3, 2, none⟩ = some (.slice A1_2 l1_2.length c1_2) := Bel.cell hy2; have gc0_ := fun p_ : Bel w5 => Calls.bel_of (p := p_) (curve_to.calls a0_0 a0_1 A0_2 c0_2 l0_2 _ _ (Kd.C_below (Kd.C_below HR0.out HB5.out) (Bel.h p_)) HC0.out P0.out.tto)
      have gc1_ := fun p_ : Bel w5 => Calls.bel_of (p := p_) (curve_to.calls a1_0 a1_1 A1_2 c1_2 l1_2 _ _ (Kd.C_below (Kd.C_below HR1.out HB5.out) (Bel.h p_)) HC1.out P1.out.tto)
      have mixed_ : Try.prog.follows .mixedOrders = true := by kernel_rfl
      go_upto_region 3 with (fail)
      refine wp_region_bel mixed_ (by kernel_rfl) ?_; repeat (go_big_quiet_step (fail))
      go_big_quiet_step ((go_at_call 58; with_reducible exact gc0_ _))
      repeat (go_big_quiet_step (fail))
      go_big_quiet_step ((go_at_call 58; with_reducible exact gc1_ _))
      repeat (go_big_quiet_step (fail))
      refine wpQuiet_nil ?_; intro wq hw'; obtain ⟨pq, hw''⟩ := hw'; have hq := Bel.h pq; rw [← hw''] at hq; clear hw'' pq gc0_ gc1_ gz0_ gz1_ gz2_ gz3_ gz4_ gz5_ hx0 hx1 hx2 hy0 hy1 hy2 hz0 hz1 hz2 hf0 hf1 hf2; have HB := Aside0.mk (below_step HB5.out hq); have B2 := Aside0.mk (blk_below BKa5.out hq); have B3 := Aside0.mk (blk_below BKb5.out hq); have B4 := Aside0.mk (blk_below BKc5.out hq); clear hq HB5 BKa5 BKb5 BKc5; have emx : (if a0_0 < a1_0 then a1_0 else a0_0) = mx a0_0 a1_0 := rfl; have emn : (if a1_0 + (l1_2.length : Int) < a0_0 + (l0_2.length : Int) then a1_0 + (l1_2.length : Int) else a0_0 + (l0_2.length : Int)) = mn (a0_0 + (l0_2.length : Int)) (a1_0 + (l1_2.length : Int)) := rfl; simp only [emx, emn]; clear emx emn; have elo : toC ⟨a0_0, a0_1, l0_2⟩ = a0_0 + (l0_2.length : Int) := rfl; have ehi : toC ⟨a1_0, a1_1, l1_2⟩ = a1_0 + (l1_2.length : Int) := rfl
      by_cases hgt : mn (a0_0 + (l0_2.length : Int)) (a1_0 + (l1_2.length : Int)) < mx a0_0 a1_0
      · have hz0 : wq.cell? ⟨g4, 0, none⟩ = some (.int .i64 0) := (blk_cell B4.out 0).trans rfl; have hf0 := blk_frozen B4.out 0; have hz1 : wq.cell? ⟨g4, 1, none⟩ = some (.int .i64 0) := (blk_cell B4.out 1).trans rfl; have hf1 := blk_frozen B4.out 1; have hz2 : wq.cell? ⟨g4, 2, none⟩ = some (.slice none 0 0) := (blk_cell B4.out 2).trans rfl; have hf2 := blk_frozen B4.out 2; go_wp2
        obtain ⟨e1, e2, e3⟩ := store_curve (x := 0) (y := 0) (v := .slice none 0 0) HB.out GE.out B4.out (Kd.R_nil _ _ _ _ _); obtain ⟨rfl, rfl, rfl, rfl⟩ : 0 = r1 ∧ 0 = r2 ∧ [] = r3 ∧ 6 = r4 := by have h := HJ2.out; unfold addOk at h; rw [if_pos (show mn (toC ⟨a0_0, a0_1, l0_2⟩) (toC ⟨a1_0, a1_1, l1_2⟩) < mx a0_0 a1_0 from hgt)] at h; simpa using h
        refine bodyPost_ret (results_ct rfl _ _ g4 24 _ (0, 0) _ rfl e1 Try.underlying24 rfl (by kernel_rfl)) rfl ?_; exact ⟨_, rfl, e2, e3⟩
      · obtain ⟨i1, i2, i3, i4, i5⟩ := add_in' (a := ⟨a0_0, a0_1, l0_2⟩) (b := ⟨a1_0, a1_1, l1_2⟩) hgt; have hp0 := P0.out.part _ _ i1 i2 i5; have hp1 := P1.out.part _ _ i3 i4 i5; have hs12 := sub_same i1 i2 i3 i4 i5; have hv1 := P0.out.val (mx a0_0 a1_0); have hv2 := P1.out.val (mx a0_0 a1_0); have hb1 : ∀ s ∈ sub ⟨a0_0, a0_1, l0_2⟩ (mx a0_0 a1_0) (mn (toC ⟨a0_0, a0_1, l0_2⟩) (toC ⟨a1_0, a1_1, l1_2⟩)), -1048576 ≤ s ∧ s ≤ 1048576 := fun s hs => P0.out.slope s (sub_mem hs)
        have hb2 : ∀ s ∈ sub ⟨a1_0, a1_1, l1_2⟩ (mx a0_0 a1_0) (mn (toC ⟨a0_0, a0_1, l0_2⟩) (toC ⟨a1_0, a1_1, l1_2⟩)), -1048576 ≤ s ∧ s ≤ 1048576 := fun s hs => P1.out.slope s (sub_mem hs)
        have hlen : (sub ⟨a0_0, a0_1, l0_2⟩ (mx a0_0 a1_0) (mn (toC ⟨a0_0, a0_1, l0_2⟩) (toC ⟨a1_0, a1_1, l1_2⟩))).length ≤ 64 := by have h1 := sub_len i1 i2; have h2 := P0.out.len; obtain ⟨u1, u2⟩ := i2; simp only at u1 u2 h1; omega
        have hjj := HJ2.out; unfold addOk at hjj
        rw [if_neg (show ¬mn (toC ⟨a0_0, a0_1, l0_2⟩) (toC ⟨a1_0, a1_1, l1_2⟩) < mx a0_0 a1_0 from hgt)] at hjj; unfold addC at hjj
        simp only at hp0 hp1 hs12 hb1 hb2 hlen hjj i5; go_upto_region 6 with (fail)
        generalize valC ⟨a0_0, a0_1, l0_2⟩ (mx a0_0 a1_0) = va at hp0 hv1 hjj; generalize valC ⟨a1_0, a1_1, l1_2⟩ (mx a0_0 a1_0) = vb at hp1 hv2 hjj; generalize sub ⟨a0_0, a0_1, l0_2⟩ (mx a0_0 a1_0) (mn (toC ⟨a0_0, a0_1, l0_2⟩) (toC ⟨a1_0, a1_1, l1_2⟩)) = s1 at hp0 hs12 hb1 hlen hjj; generalize sub ⟨a1_0, a1_1, l1_2⟩ (mx a0_0 a1_0) (mn (toC ⟨a0_0, a0_1, l0_2⟩) (toC ⟨a1_0, a1_1, l1_2⟩)) = s2 at hp1 hs12 hb2 hjj; rw [elo, ehi] at hp0 hp1; clear hgt i1 i2 i3 i4 i5 elo ehi P0 P1 HJ2; generalize mn (a0_0 + (l0_2.length : Int)) (a1_0 + (l1_2.length : Int)) = hi at hp0 hp1 ⊢; generalize mx a0_0 a1_0 = lo at hp0 hp1 hjj ⊢; have HP0 := Aside0.mk hp0; have HP1 := Aside0.mk hp1; have HS12 := Aside0.mk hs12; have HV1 := Aside0.mk hv1; have HV2 := Aside0.mk hv2; have HB1_ := Aside0.mk hb1; have HB2_ := Aside0.mk hb2; have HLEN := Aside0.mk hlen; have HJ := Aside0.mk hjj; clear hp0 hp1 hs12 hv1 hv2 hb1 hb2 hlen hjj; refine start_ (n := 12) (S := fun w' => (w'.cell? ⟨g2, 0, none⟩ = some (.int .i64 a0_0) ∧ w'.cell? ⟨g2, 1, none⟩ = some (.int .i64 a0_1) ∧ w'.cell? ⟨g2, 2, none⟩ = some (.slice A0_2 l0_2.length c0_2) ∧ w'.cell? ⟨g3, 0, none⟩ = some (.int .i64 a1_0) ∧ w'.cell? ⟨g3, 1, none⟩ = some (.int .i64 a1_1) ∧ w'.cell? ⟨g3, 2, none⟩ = some (.slice A1_2 l1_2.length c1_2))) (ds := []) #[false, false, false, false, false, false, false, false, false, false, false, false] (by kernel_rfl) rfl rfl ⟨(blk_cell B2.out 0).trans rfl, (blk_cell B2.out 1).trans rfl, (blk_cell B2.out 2).trans rfl, (blk_cell B3.out 0).trans rfl, (blk_cell B3.out 1).trans rfl, (blk_cell B3.out 2).trans rfl⟩ (fun hHeld => ?_); refine with_tabW add_tab6 add_bits6 (fun HT_ HW_ => ?_); have n0_ := Aside0.mk (blk_drew B4.out); have n1_ := Aside0.mk (below_drew1 HB.out); clear B2 B3 B4 HB; have B4 := n0_; have HB := n1_; clear n0_ n1_; generalize wq.drew = wd at B4 HB hHeld ⊢; refine pure_ (i := 1) (N := some 36) (v := ?_) (a' := ?_) #[false, true, false, false, false, false, false, false, false, false, false, false] rfl rfl (any_of HT_.out (by kernel_rfl)) (fun _ _ _ h => h) (Or.inl ⟨by rfl, ?_⟩) ?_ ?_; rotate_left
        · intro w'; go_simp
          with_reducible rfl
        rotate_left
        · simp only [Act.put, zs1, zs2, zs3, i64_w, i32_w]; rfl
        refine pure_ (i := 2) (N := some 37) (v := ?_) (a' := ?_) #[false, true, true, false, false, false, false, false, false, false, false, false] rfl rfl (any_of HT_.out (by kernel_rfl)) (fun _ _ _ h => h) (Or.inl ⟨by rfl, ?_⟩) ?_ ?_; rotate_left
        · intro w'; go_simp
          with_reducible rfl
        rotate_left
        · simp only [Act.put, zs1, zs2, zs3, i64_w, i32_w]; rfl
        refine pure_ (i := 5) (N := some 40) (v := ?_) (a' := ?_) #[false, true, true, false, false, true, false, false, false, false, false, false] rfl rfl (any_of HT_.out (by kernel_rfl)) (fun _ _ _ h => h) (Or.inl ⟨by rfl, ?_⟩) ?_ ?_; rotate_left
        · intro w'; go_simp
          with_reducible rfl
        rotate_left
        · simp only [Act.put, zs1, zs2, zs3, i64_w, i32_w]; rfl
        refine pure_ (i := 6) (N := some 41) (v := ?_) (a' := ?_) #[false, true, true, false, false, true, true, false, false, false, false, false] rfl rfl (any_of HT_.out (by kernel_rfl)) (fun _ _ _ h => h) (Or.inl ⟨by rfl, ?_⟩) ?_ ?_; rotate_left
        · intro w'; go_simp
          with_reducible rfl
        rotate_left
        · simp only [Act.put, zs1, zs2, zs3, i64_w, i32_w]; rfl
        refine take_ (i := 0) (N := some 35) (v := ?_) (a' := ?_) #[true, true, true, false, false, true, true, false, false, false, false, false] rfl rfl (take_ofW HT_.out HW_.out (by kernel_rfl)) (fun _ _ _ h => h) (Or.inl ⟨by rfl, ?_⟩) hHeld ?_ ?_; rotate_left
        · rintro w' ⟨s0, s1_, s2_, s3, s4, s5⟩; go_simp
          with_reducible rfl
        rotate_left
        · simp only [Act.put, zs1, zs2, zs3, i64_w, i32_w]; rfl
        refine take_ (i := 4) (N := some 39) (v := ?_) (a' := ?_) #[true, true, true, false, true, true, true, false, false, false, false, false] rfl rfl (take_ofW HT_.out HW_.out (by kernel_rfl)) (fun _ _ _ h => h) (Or.inl ⟨by rfl, ?_⟩) hHeld ?_ ?_; rotate_left
        · rintro w' ⟨s0, s1_, s2_, s3, s4, s5⟩; go_simp
          with_reducible rfl
        rotate_left
        · simp only [Act.put, zs1, zs2, zs3, i64_w, i32_w]; rfl
        refine join_ (σ := Value × Value × Nat × Nat) 2 #[true, true, true, true, true, true, true, true, true, true, false, false] (fun s_ => [(38, .agg #[.int .i64 lo, .int .i64 va, s_.1]), (42, .agg #[.int .i64 lo, .int .i64 vb, s_.2.1]), (8, .pointer (some ⟨s_.2.2.1, 0, none⟩)), (9, .pointer (some ⟨s_.2.2.2, 0, none⟩))]) (fun s_ w' => (w'.cell? ⟨g2, 0, none⟩ = some (.int .i64 a0_0) ∧ w'.cell? ⟨g2, 1, none⟩ = some (.int .i64 a0_1) ∧ w'.cell? ⟨g2, 2, none⟩ = some (.slice A0_2 l0_2.length c0_2) ∧ w'.cell? ⟨g3, 0, none⟩ = some (.int .i64 a1_0) ∧ w'.cell? ⟨g3, 1, none⟩ = some (.int .i64 a1_1) ∧ w'.cell? ⟨g3, 2, none⟩ = some (.slice A1_2 l1_2.length c1_2)) ∧ (Kd.R (Kd.int .i64) 3 w' w.heap.size (fun k_ => some k_ ≠ (s_.2.1 : Value).ownBlock) s_.1 s1) ∧ (Kd.R (Kd.int .i64) 3 w' w.heap.size (fun k_ => some k_ ≠ (s_.1 : Value).ownBlock) s_.2.1 s2) ∧ (w'.heap[g4]? = some (.cells #[.int .i64 0, .int .i64 0, .slice none 0 0] 24 (0, 0))) ∧ (w'.heap[s_.2.2.1]? = some (.cells #[.int .i64 0, .int .i64 0, .slice none 0 0] 24 (0, 0))) ∧ (w.heap.size ≤ s_.2.2.1) ∧ (g4 ≠ s_.2.2.1) ∧ (g2 ≠ s_.2.2.1) ∧ (g3 ≠ s_.2.2.1) ∧ (w'.heap[s_.2.2.2]? = some (.cells #[.int .i64 0, .int .i64 0, .slice none 0 0] 24 (0, 0))) ∧ (w.heap.size ≤ s_.2.2.2) ∧ (g4 ≠ s_.2.2.2) ∧ (g2 ≠ s_.2.2.2) ∧ (g3 ≠ s_.2.2.2) ∧ (s_.2.2.1 ≠ s_.2.2.2) ∧ (Below w.heap.size w w')) ?_ ?_; rotate_left
        · intro J_c1c2a1a2; refine join_ (σ := Value × Nat × Nat) 3 #[true, true, true, true, true, true, true, false, true, true, false, false] (fun s_ => [(38, .agg #[.int .i64 lo, .int .i64 va, s_.1]), (8, .pointer (some ⟨s_.2.1, 0, none⟩)), (9, .pointer (some ⟨s_.2.2, 0, none⟩))]) (fun s_ w' => (w'.cell? ⟨g2, 0, none⟩ = some (.int .i64 a0_0) ∧ w'.cell? ⟨g2, 1, none⟩ = some (.int .i64 a0_1) ∧ w'.cell? ⟨g2, 2, none⟩ = some (.slice A0_2 l0_2.length c0_2) ∧ w'.cell? ⟨g3, 0, none⟩ = some (.int .i64 a1_0) ∧ w'.cell? ⟨g3, 1, none⟩ = some (.int .i64 a1_1) ∧ w'.cell? ⟨g3, 2, none⟩ = some (.slice A1_2 l1_2.length c1_2)) ∧ (Kd.R (Kd.int .i64) 3 w' w.heap.size (fun _ => True) s_.1 s1) ∧ (w'.heap[g4]? = some (.cells #[.int .i64 0, .int .i64 0, .slice none 0 0] 24 (0, 0))) ∧ (w'.heap[s_.2.1]? = some (.cells #[.int .i64 0, .int .i64 0, .slice none 0 0] 24 (0, 0))) ∧ (w.heap.size ≤ s_.2.1) ∧ (g4 ≠ s_.2.1) ∧ (g2 ≠ s_.2.1) ∧ (g3 ≠ s_.2.1) ∧ (w'.heap[s_.2.2]? = some (.cells #[.int .i64 0, .int .i64 0, .slice none 0 0] 24 (0, 0))) ∧ (w.heap.size ≤ s_.2.2) ∧ (g4 ≠ s_.2.2) ∧ (g2 ≠ s_.2.2) ∧ (g3 ≠ s_.2.2) ∧ (s_.2.1 ≠ s_.2.2) ∧ (Below w.heap.size w w')) ?_ ?_; rotate_left
          · intro J_c1a1a2; refine join_ (σ := Value × Value × Nat) 3 #[true, true, true, true, true, true, true, true, true, false, false, false] (fun s_ => [(38, .agg #[.int .i64 lo, .int .i64 va, s_.1]), (42, .agg #[.int .i64 lo, .int .i64 vb, s_.2.1]), (8, .pointer (some ⟨s_.2.2, 0, none⟩))]) (fun s_ w' => (w'.cell? ⟨g2, 0, none⟩ = some (.int .i64 a0_0) ∧ w'.cell? ⟨g2, 1, none⟩ = some (.int .i64 a0_1) ∧ w'.cell? ⟨g2, 2, none⟩ = some (.slice A0_2 l0_2.length c0_2) ∧ w'.cell? ⟨g3, 0, none⟩ = some (.int .i64 a1_0) ∧ w'.cell? ⟨g3, 1, none⟩ = some (.int .i64 a1_1) ∧ w'.cell? ⟨g3, 2, none⟩ = some (.slice A1_2 l1_2.length c1_2)) ∧ (Kd.R (Kd.int .i64) 3 w' w.heap.size (fun k_ => some k_ ≠ (s_.2.1 : Value).ownBlock) s_.1 s1) ∧ (Kd.R (Kd.int .i64) 3 w' w.heap.size (fun k_ => some k_ ≠ (s_.1 : Value).ownBlock) s_.2.1 s2) ∧ (w'.heap[g4]? = some (.cells #[.int .i64 0, .int .i64 0, .slice none 0 0] 24 (0, 0))) ∧ (w'.heap[s_.2.2]? = some (.cells #[.int .i64 0, .int .i64 0, .slice none 0 0] 24 (0, 0))) ∧ (w.heap.size ≤ s_.2.2) ∧ (g4 ≠ s_.2.2) ∧ (g2 ≠ s_.2.2) ∧ (g3 ≠ s_.2.2) ∧ (Below w.heap.size w w')) ?_ ?_; rotate_left
            · intro J_c1c2a1; refine join_ (σ := Value × Value × Nat) 3 #[true, true, true, true, true, true, true, true, false, true, false, false] (fun s_ => [(38, .agg #[.int .i64 lo, .int .i64 va, s_.1]), (42, .agg #[.int .i64 lo, .int .i64 vb, s_.2.1]), (9, .pointer (some ⟨s_.2.2, 0, none⟩))]) (fun s_ w' => (w'.cell? ⟨g2, 0, none⟩ = some (.int .i64 a0_0) ∧ w'.cell? ⟨g2, 1, none⟩ = some (.int .i64 a0_1) ∧ w'.cell? ⟨g2, 2, none⟩ = some (.slice A0_2 l0_2.length c0_2) ∧ w'.cell? ⟨g3, 0, none⟩ = some (.int .i64 a1_0) ∧ w'.cell? ⟨g3, 1, none⟩ = some (.int .i64 a1_1) ∧ w'.cell? ⟨g3, 2, none⟩ = some (.slice A1_2 l1_2.length c1_2)) ∧ (Kd.R (Kd.int .i64) 3 w' w.heap.size (fun k_ => some k_ ≠ (s_.2.1 : Value).ownBlock) s_.1 s1) ∧ (Kd.R (Kd.int .i64) 3 w' w.heap.size (fun k_ => some k_ ≠ (s_.1 : Value).ownBlock) s_.2.1 s2) ∧ (w'.heap[g4]? = some (.cells #[.int .i64 0, .int .i64 0, .slice none 0 0] 24 (0, 0))) ∧ (w'.heap[s_.2.2]? = some (.cells #[.int .i64 0, .int .i64 0, .slice none 0 0] 24 (0, 0))) ∧ (w.heap.size ≤ s_.2.2) ∧ (g4 ≠ s_.2.2) ∧ (g2 ≠ s_.2.2) ∧ (g3 ≠ s_.2.2) ∧ (Below w.heap.size w w')) ?_ ?_; rotate_left
              · intro J_c1c2a2; refine join_ (σ := Nat × Nat) 4 #[true, true, true, false, true, true, true, false, true, true, false, false] (fun s_ => [(8, .pointer (some ⟨s_.1, 0, none⟩)), (9, .pointer (some ⟨s_.2, 0, none⟩))]) (fun s_ w' => (w'.cell? ⟨g2, 0, none⟩ = some (.int .i64 a0_0) ∧ w'.cell? ⟨g2, 1, none⟩ = some (.int .i64 a0_1) ∧ w'.cell? ⟨g2, 2, none⟩ = some (.slice A0_2 l0_2.length c0_2) ∧ w'.cell? ⟨g3, 0, none⟩ = some (.int .i64 a1_0) ∧ w'.cell? ⟨g3, 1, none⟩ = some (.int .i64 a1_1) ∧ w'.cell? ⟨g3, 2, none⟩ = some (.slice A1_2 l1_2.length c1_2)) ∧ (w'.heap[g4]? = some (.cells #[.int .i64 0, .int .i64 0, .slice none 0 0] 24 (0, 0))) ∧ (w'.heap[s_.1]? = some (.cells #[.int .i64 0, .int .i64 0, .slice none 0 0] 24 (0, 0))) ∧ (w.heap.size ≤ s_.1) ∧ (g4 ≠ s_.1) ∧ (g2 ≠ s_.1) ∧ (g3 ≠ s_.1) ∧ (w'.heap[s_.2]? = some (.cells #[.int .i64 0, .int .i64 0, .slice none 0 0] 24 (0, 0))) ∧ (w.heap.size ≤ s_.2) ∧ (g4 ≠ s_.2) ∧ (g2 ≠ s_.2) ∧ (g3 ≠ s_.2) ∧ (s_.1 ≠ s_.2) ∧ (Below w.heap.size w w')) ?_ ?_; rotate_left
                · intro J_a1a2; refine join_ (σ := Value × Nat) 4 #[true, true, true, true, true, true, true, false, true, false, false, false] (fun s_ => [(38, .agg #[.int .i64 lo, .int .i64 va, s_.1]), (8, .pointer (some ⟨s_.2, 0, none⟩))]) (fun s_ w' => (w'.cell? ⟨g2, 0, none⟩ = some (.int .i64 a0_0) ∧ w'.cell? ⟨g2, 1, none⟩ = some (.int .i64 a0_1) ∧ w'.cell? ⟨g2, 2, none⟩ = some (.slice A0_2 l0_2.length c0_2) ∧ w'.cell? ⟨g3, 0, none⟩ = some (.int .i64 a1_0) ∧ w'.cell? ⟨g3, 1, none⟩ = some (.int .i64 a1_1) ∧ w'.cell? ⟨g3, 2, none⟩ = some (.slice A1_2 l1_2.length c1_2)) ∧ (Kd.R (Kd.int .i64) 3 w' w.heap.size (fun _ => True) s_.1 s1) ∧ (w'.heap[g4]? = some (.cells #[.int .i64 0, .int .i64 0, .slice none 0 0] 24 (0, 0))) ∧ (w'.heap[s_.2]? = some (.cells #[.int .i64 0, .int .i64 0, .slice none 0 0] 24 (0, 0))) ∧ (w.heap.size ≤ s_.2) ∧ (g4 ≠ s_.2) ∧ (g2 ≠ s_.2) ∧ (g3 ≠ s_.2) ∧ (Below w.heap.size w w')) ?_ ?_; rotate_left
                  · intro J_c1a1; refine join_ (σ := Value × Nat) 4 #[true, true, true, true, true, true, true, false, false, true, false, false] (fun s_ => [(38, .agg #[.int .i64 lo, .int .i64 va, s_.1]), (9, .pointer (some ⟨s_.2, 0, none⟩))]) (fun s_ w' => (w'.cell? ⟨g2, 0, none⟩ = some (.int .i64 a0_0) ∧ w'.cell? ⟨g2, 1, none⟩ = some (.int .i64 a0_1) ∧ w'.cell? ⟨g2, 2, none⟩ = some (.slice A0_2 l0_2.length c0_2) ∧ w'.cell? ⟨g3, 0, none⟩ = some (.int .i64 a1_0) ∧ w'.cell? ⟨g3, 1, none⟩ = some (.int .i64 a1_1) ∧ w'.cell? ⟨g3, 2, none⟩ = some (.slice A1_2 l1_2.length c1_2)) ∧ (Kd.R (Kd.int .i64) 3 w' w.heap.size (fun _ => True) s_.1 s1) ∧ (w'.heap[g4]? = some (.cells #[.int .i64 0, .int .i64 0, .slice none 0 0] 24 (0, 0))) ∧ (w'.heap[s_.2]? = some (.cells #[.int .i64 0, .int .i64 0, .slice none 0 0] 24 (0, 0))) ∧ (w.heap.size ≤ s_.2) ∧ (g4 ≠ s_.2) ∧ (g2 ≠ s_.2) ∧ (g3 ≠ s_.2) ∧ (Below w.heap.size w w')) ?_ ?_; rotate_left
                    · intro J_c1a2; refine join_ (σ := Value × Value) 4 #[true, true, true, true, true, true, true, true, false, false, false, false] (fun s_ => [(38, .agg #[.int .i64 lo, .int .i64 va, s_.1]), (42, .agg #[.int .i64 lo, .int .i64 vb, s_.2])]) (fun s_ w' => (w'.cell? ⟨g2, 0, none⟩ = some (.int .i64 a0_0) ∧ w'.cell? ⟨g2, 1, none⟩ = some (.int .i64 a0_1) ∧ w'.cell? ⟨g2, 2, none⟩ = some (.slice A0_2 l0_2.length c0_2) ∧ w'.cell? ⟨g3, 0, none⟩ = some (.int .i64 a1_0) ∧ w'.cell? ⟨g3, 1, none⟩ = some (.int .i64 a1_1) ∧ w'.cell? ⟨g3, 2, none⟩ = some (.slice A1_2 l1_2.length c1_2)) ∧ (Kd.R (Kd.int .i64) 3 w' w.heap.size (fun k_ => some k_ ≠ (s_.2 : Value).ownBlock) s_.1 s1) ∧ (Kd.R (Kd.int .i64) 3 w' w.heap.size (fun k_ => some k_ ≠ (s_.1 : Value).ownBlock) s_.2 s2) ∧ (w'.heap[g4]? = some (.cells #[.int .i64 0, .int .i64 0, .slice none 0 0] 24 (0, 0))) ∧ (Below w.heap.size w w')) ?_ ?_; rotate_left
                      · intro J_c1c2; refine join_ (σ := Nat) 5 #[true, true, true, false, true, true, true, false, true, false, false, false] (fun s_ => [(8, .pointer (some ⟨s_, 0, none⟩))]) (fun s_ w' => (w'.cell? ⟨g2, 0, none⟩ = some (.int .i64 a0_0) ∧ w'.cell? ⟨g2, 1, none⟩ = some (.int .i64 a0_1) ∧ w'.cell? ⟨g2, 2, none⟩ = some (.slice A0_2 l0_2.length c0_2) ∧ w'.cell? ⟨g3, 0, none⟩ = some (.int .i64 a1_0) ∧ w'.cell? ⟨g3, 1, none⟩ = some (.int .i64 a1_1) ∧ w'.cell? ⟨g3, 2, none⟩ = some (.slice A1_2 l1_2.length c1_2)) ∧ (w'.heap[g4]? = some (.cells #[.int .i64 0, .int .i64 0, .slice none 0 0] 24 (0, 0))) ∧ (w'.heap[s_]? = some (.cells #[.int .i64 0, .int .i64 0, .slice none 0 0] 24 (0, 0))) ∧ (w.heap.size ≤ s_) ∧ (g4 ≠ s_) ∧ (g2 ≠ s_) ∧ (g3 ≠ s_) ∧ (Below w.heap.size w w')) ?_ ?_; rotate_left
                        · intro J_a1; refine join_ (σ := Nat) 5 #[true, true, true, false, true, true, true, false, false, true, false, false] (fun s_ => [(9, .pointer (some ⟨s_, 0, none⟩))]) (fun s_ w' => (w'.cell? ⟨g2, 0, none⟩ = some (.int .i64 a0_0) ∧ w'.cell? ⟨g2, 1, none⟩ = some (.int .i64 a0_1) ∧ w'.cell? ⟨g2, 2, none⟩ = some (.slice A0_2 l0_2.length c0_2) ∧ w'.cell? ⟨g3, 0, none⟩ = some (.int .i64 a1_0) ∧ w'.cell? ⟨g3, 1, none⟩ = some (.int .i64 a1_1) ∧ w'.cell? ⟨g3, 2, none⟩ = some (.slice A1_2 l1_2.length c1_2)) ∧ (w'.heap[g4]? = some (.cells #[.int .i64 0, .int .i64 0, .slice none 0 0] 24 (0, 0))) ∧ (w'.heap[s_]? = some (.cells #[.int .i64 0, .int .i64 0, .slice none 0 0] 24 (0, 0))) ∧ (w.heap.size ≤ s_) ∧ (g4 ≠ s_) ∧ (g2 ≠ s_) ∧ (g3 ≠ s_) ∧ (Below w.heap.size w w')) ?_ ?_; rotate_left
                          · intro J_a2; refine join_ (σ := Value) 5 #[true, true, true, true, true, true, true, false, false, false, false, false] (fun s_ => [(38, .agg #[.int .i64 lo, .int .i64 va, s_])]) (fun s_ w' => (w'.cell? ⟨g2, 0, none⟩ = some (.int .i64 a0_0) ∧ w'.cell? ⟨g2, 1, none⟩ = some (.int .i64 a0_1) ∧ w'.cell? ⟨g2, 2, none⟩ = some (.slice A0_2 l0_2.length c0_2) ∧ w'.cell? ⟨g3, 0, none⟩ = some (.int .i64 a1_0) ∧ w'.cell? ⟨g3, 1, none⟩ = some (.int .i64 a1_1) ∧ w'.cell? ⟨g3, 2, none⟩ = some (.slice A1_2 l1_2.length c1_2)) ∧ (Kd.R (Kd.int .i64) 3 w' w.heap.size (fun _ => True) s_ s1) ∧ (w'.heap[g4]? = some (.cells #[.int .i64 0, .int .i64 0, .slice none 0 0] 24 (0, 0))) ∧ (Below w.heap.size w w')) ?_ ?_; rotate_left
                            · intro J_c1; refine three_ (i := 3) (j := 8) (k := 9) (Ni := some 38) (Nj := some 8) (Nk := some 9) #[true, true, true, true, true, true, true, false, false, false, false, false] #[true, true, true, false, true, true, true, false, true, false, false, false] #[true, true, true, false, true, true, true, false, false, true, false, false] rfl rfl rfl rfl rfl rfl (three_of HT_.out (by kernel_rfl)) (by decide) (by decide) (by decide) (fun K hK => ?_) (fun K hK => ?_) (fun K hK => ?_)
                              · skip; refine gO Try.func76 #[.agg #[.int .i64 a0_0, .int .i64 a0_1, .slice A0_2 l0_2.length c0_2], .int .i64 lo, .int .i64 hi] ?_
                                with_reducible refine (curve_part.calls _ _ A0_2 c0_2 _ _ _ _ _ _ _ (Kd.C_below HR0.out HB.out) HC0.out HP0.out).mono ?_
                                rintro e w_ ⟨v1, rfl, ho0, hb⟩; refine ⟨_, rfl, ?_⟩; have n0_ := Aside0.mk (Kd.R_lower ho0 (below_size HB.out)); have n1_ := Aside0.mk (blk_below B4.out hb); have n2_ := Aside0.mk (below_step HB.out hb); refine hK.out _ _ (bca6 hb hHeld) (fun hHeld2 => ?_); clear hK K; refine norm_ (a' := ?_) ?_ ?_; rotate_left
                                · show Act.put _ (some 38) _ = _; simp only [Act.put, zs1, zs2, zs3, i64_w, i32_w]; rfl
                                exact norm_ (by first | (simp only [putAll, Act.put, zs1, zs2, zs3]; done) | (simp only [putAll, Act.put, zs1, zs2, zs3]; rfl)) (J_c1 v1 _ ⟨hHeld2, n0_.out, n1_.out, n2_.out⟩)
                              · skip; refine box_step ?hg (N := 8) ?hd (cs := #[.int .i64 0, .int .i64 0, .slice none 0 0]) (t := 24) ?hr ?_; (case hd => rfl); (case hg => rfl); (case hr => first | (go_simp; done) | (go_simp; rfl)); intro g8 hg w_ hbox hb; have n0_ := Aside0.mk (blk_below B4.out hb); have n1_ := Aside0.mk (hbox); have n2_ := Aside0.mk ((show w.heap.size ≤ g8 by rw [hg]; exact below_size HB.out)); have n3_ := Aside0.mk ((show g4 ≠ g8 by rw [hg]; exact Nat.ne_of_lt (blk_lt B4.out))); have n4_ := Aside0.mk ((show g2 ≠ g8 by rw [hg]; exact Nat.ne_of_lt (World.block_lt_of_cell? _ _ hHeld.1))); have n5_ := Aside0.mk ((show g3 ≠ g8 by rw [hg]; exact Nat.ne_of_lt (World.block_lt_of_cell? _ _ hHeld.2.2.2.1))); have n6_ := Aside0.mk (below_step HB.out hb); refine hK.out _ _ (bca6 hb hHeld) (fun hHeld2 => ?_); clear hK K; refine norm_ (a' := ?_) ?_ ?_; rotate_left
                                · show Act.put _ (some 8) _ = _; simp only [Act.put, zs1, zs2, zs3, i64_w, i32_w]; rfl
                                exact norm_ (by first | (simp only [putAll, Act.put, zs1, zs2, zs3]; done) | (simp only [putAll, Act.put, zs1, zs2, zs3]; rfl)) (J_a1 g8 _ ⟨hHeld2, n0_.out, n1_.out, n2_.out, n3_.out, n4_.out, n5_.out, n6_.out⟩)
                              · skip; refine box_step ?hg (N := 9) ?hd (cs := #[.int .i64 0, .int .i64 0, .slice none 0 0]) (t := 24) ?hr ?_; (case hd => rfl); (case hg => rfl); (case hr => first | (go_simp; done) | (go_simp; rfl)); intro g9 hg w_ hbox hb; have n0_ := Aside0.mk (blk_below B4.out hb); have n1_ := Aside0.mk (hbox); have n2_ := Aside0.mk ((show w.heap.size ≤ g9 by rw [hg]; exact below_size HB.out)); have n3_ := Aside0.mk ((show g4 ≠ g9 by rw [hg]; exact Nat.ne_of_lt (blk_lt B4.out))); have n4_ := Aside0.mk ((show g2 ≠ g9 by rw [hg]; exact Nat.ne_of_lt (World.block_lt_of_cell? _ _ hHeld.1))); have n5_ := Aside0.mk ((show g3 ≠ g9 by rw [hg]; exact Nat.ne_of_lt (World.block_lt_of_cell? _ _ hHeld.2.2.2.1))); have n6_ := Aside0.mk (below_step HB.out hb); refine hK.out _ _ (bca6 hb hHeld) (fun hHeld2 => ?_); clear hK K; refine norm_ (a' := ?_) ?_ ?_; rotate_left
                                · show Act.put _ (some 9) _ = _; simp only [Act.put, zs1, zs2, zs3, i64_w, i32_w]; rfl
                                exact norm_ (by first | (simp only [putAll, Act.put, zs1, zs2, zs3]; done) | (simp only [putAll, Act.put, zs1, zs2, zs3]; rfl)) (J_a2 g9 _ ⟨hHeld2, n0_.out, n1_.out, n2_.out, n3_.out, n4_.out, n5_.out, n6_.out⟩)
                            · skip; rintro v1 w_ ⟨hS_, h0_, h1_, h2_⟩; clear B4 HB hHeld; have hHeld : (w_.cell? ⟨g2, 0, none⟩ = some (.int .i64 a0_0) ∧ w_.cell? ⟨g2, 1, none⟩ = some (.int .i64 a0_1) ∧ w_.cell? ⟨g2, 2, none⟩ = some (.slice A0_2 l0_2.length c0_2) ∧ w_.cell? ⟨g3, 0, none⟩ = some (.int .i64 a1_0) ∧ w_.cell? ⟨g3, 1, none⟩ = some (.int .i64 a1_1) ∧ w_.cell? ⟨g3, 2, none⟩ = some (.slice A1_2 l1_2.length c1_2)) := hS_; have R1 : Aside0 (Kd.R (Kd.int .i64) 3 w_ w.heap.size (fun _ => True) v1 s1) := ⟨h0_⟩; have B4 : Aside0 (w_.heap[g4]? = some (.cells #[.int .i64 0, .int .i64 0, .slice none 0 0] 24 (0, 0))) := ⟨h1_⟩; have HB : Aside0 (Below w.heap.size w w_) := ⟨h2_⟩; clear hS_ h0_ h1_ h2_; refine norm_ (a' := ?_) ?_ ?_; rotate_left
                              · simp only [putAll, Act.put, zs1, zs2, zs3]; rfl
                              refine three_ (i := 7) (j := 8) (k := 9) (Ni := some 42) (Nj := some 8) (Nk := some 9) #[true, true, true, true, true, true, true, true, false, false, false, false] #[true, true, true, true, true, true, true, false, true, false, false, false] #[true, true, true, true, true, true, true, false, false, true, false, false] rfl rfl rfl rfl rfl rfl (three_of HT_.out (by kernel_rfl)) (by decide) (by decide) (by decide) (fun K hK => ?_) (fun K hK => ?_) (fun K hK => ?_)
                              · skip; refine gO Try.func76 #[.agg #[.int .i64 a1_0, .int .i64 a1_1, .slice A1_2 l1_2.length c1_2], .int .i64 lo, .int .i64 hi] ?_
                                with_reducible refine (curve_part.calls _ _ A1_2 c1_2 _ _ _ _ _ _ _ (Kd.C_below HR1.out HB.out) HC1.out HP1.out).mono ?_
                                rintro e w_ ⟨v2, rfl, ho0, hb⟩; refine ⟨_, rfl, ?_⟩; have n0_ := Aside0.mk (Kd.R_mono (Kd.R_elder' R1.out (Kd.R_base ho0) hb) (fun k hk => hk.2)); have n1_ := Aside0.mk (Kd.R_mono (Kd.R_lower (Kd.R_new' ho0 (Kd.R_lt R1.out)) (below_size HB.out)) (fun k hk => hk.2)); have n2_ := Aside0.mk (blk_below B4.out hb); have n3_ := Aside0.mk (below_step HB.out hb); refine hK.out _ _ (bca6 hb hHeld) (fun hHeld2 => ?_); clear hK K; refine norm_ (a' := ?_) ?_ ?_; rotate_left
                                · show Act.put _ (some 42) _ = _; simp only [Act.put, zs1, zs2, zs3, i64_w, i32_w]; rfl
                                exact norm_ (by first | (simp only [putAll, Act.put, zs1, zs2, zs3]; done) | (simp only [putAll, Act.put, zs1, zs2, zs3]; rfl)) (J_c1c2 (v1, v2) _ ⟨hHeld2, n0_.out, n1_.out, n2_.out, n3_.out⟩)
                              · skip; refine box_step ?hg (N := 8) ?hd (cs := #[.int .i64 0, .int .i64 0, .slice none 0 0]) (t := 24) ?hr ?_; (case hd => rfl); (case hg => rfl); (case hr => first | (go_simp; done) | (go_simp; rfl)); intro g8 hg w_ hbox hb; have n0_ := Aside0.mk (Kd.R_below R1.out hb); have n1_ := Aside0.mk (blk_below B4.out hb); have n2_ := Aside0.mk (hbox); have n3_ := Aside0.mk ((show w.heap.size ≤ g8 by rw [hg]; exact below_size HB.out)); have n4_ := Aside0.mk ((show g4 ≠ g8 by rw [hg]; exact Nat.ne_of_lt (blk_lt B4.out))); have n5_ := Aside0.mk ((show g2 ≠ g8 by rw [hg]; exact Nat.ne_of_lt (World.block_lt_of_cell? _ _ hHeld.1))); have n6_ := Aside0.mk ((show g3 ≠ g8 by rw [hg]; exact Nat.ne_of_lt (World.block_lt_of_cell? _ _ hHeld.2.2.2.1))); have n7_ := Aside0.mk (below_step HB.out hb); refine hK.out _ _ (bca6 hb hHeld) (fun hHeld2 => ?_); clear hK K; refine norm_ (a' := ?_) ?_ ?_; rotate_left
                                · show Act.put _ (some 8) _ = _; simp only [Act.put, zs1, zs2, zs3, i64_w, i32_w]; rfl
                                exact norm_ (by first | (simp only [putAll, Act.put, zs1, zs2, zs3]; done) | (simp only [putAll, Act.put, zs1, zs2, zs3]; rfl)) (J_c1a1 (v1, g8) _ ⟨hHeld2, n0_.out, n1_.out, n2_.out, n3_.out, n4_.out, n5_.out, n6_.out, n7_.out⟩)
                              · skip; refine box_step ?hg (N := 9) ?hd (cs := #[.int .i64 0, .int .i64 0, .slice none 0 0]) (t := 24) ?hr ?_; (case hd => rfl); (case hg => rfl); (case hr => first | (go_simp; done) | (go_simp; rfl)); intro g9 hg w_ hbox hb; have n0_ := Aside0.mk (Kd.R_below R1.out hb); have n1_ := Aside0.mk (blk_below B4.out hb); have n2_ := Aside0.mk (hbox); have n3_ := Aside0.mk ((show w.heap.size ≤ g9 by rw [hg]; exact below_size HB.out)); have n4_ := Aside0.mk ((show g4 ≠ g9 by rw [hg]; exact Nat.ne_of_lt (blk_lt B4.out))); have n5_ := Aside0.mk ((show g2 ≠ g9 by rw [hg]; exact Nat.ne_of_lt (World.block_lt_of_cell? _ _ hHeld.1))); have n6_ := Aside0.mk ((show g3 ≠ g9 by rw [hg]; exact Nat.ne_of_lt (World.block_lt_of_cell? _ _ hHeld.2.2.2.1))); have n7_ := Aside0.mk (below_step HB.out hb); refine hK.out _ _ (bca6 hb hHeld) (fun hHeld2 => ?_); clear hK K; refine norm_ (a' := ?_) ?_ ?_; rotate_left
                                · show Act.put _ (some 9) _ = _; simp only [Act.put, zs1, zs2, zs3, i64_w, i32_w]; rfl
                                exact norm_ (by first | (simp only [putAll, Act.put, zs1, zs2, zs3]; done) | (simp only [putAll, Act.put, zs1, zs2, zs3]; rfl)) (J_c1a2 (v1, g9) _ ⟨hHeld2, n0_.out, n1_.out, n2_.out, n3_.out, n4_.out, n5_.out, n6_.out, n7_.out⟩)
                          · skip; rintro g9 w_ ⟨hS_, h0_, h1_, h2_, h3_, h4_, h5_, h6_⟩; clear B4 HB hHeld; have hHeld : (w_.cell? ⟨g2, 0, none⟩ = some (.int .i64 a0_0) ∧ w_.cell? ⟨g2, 1, none⟩ = some (.int .i64 a0_1) ∧ w_.cell? ⟨g2, 2, none⟩ = some (.slice A0_2 l0_2.length c0_2) ∧ w_.cell? ⟨g3, 0, none⟩ = some (.int .i64 a1_0) ∧ w_.cell? ⟨g3, 1, none⟩ = some (.int .i64 a1_1) ∧ w_.cell? ⟨g3, 2, none⟩ = some (.slice A1_2 l1_2.length c1_2)) := hS_; have B4 : Aside0 (w_.heap[g4]? = some (.cells #[.int .i64 0, .int .i64 0, .slice none 0 0] 24 (0, 0))) := ⟨h0_⟩; have X9 : Aside0 (w_.heap[g9]? = some (.cells #[.int .i64 0, .int .i64 0, .slice none 0 0] 24 (0, 0))) := ⟨h1_⟩; have E9 : Aside0 (w.heap.size ≤ g9) := ⟨h2_⟩; have N49 : Aside0 (g4 ≠ g9) := ⟨h3_⟩; have N29 : Aside0 (g2 ≠ g9) := ⟨h4_⟩; have N39 : Aside0 (g3 ≠ g9) := ⟨h5_⟩; have HB : Aside0 (Below w.heap.size w w_) := ⟨h6_⟩; clear hS_ h0_ h1_ h2_ h3_ h4_ h5_ h6_; refine norm_ (a' := ?_) ?_ ?_; rotate_left
                            · simp only [putAll, Act.put, zs1, zs2, zs3]; rfl
                            refine two_ (i := 3) (j := 8) (Ni := some 38) (Nj := some 8) #[true, true, true, true, true, true, true, false, false, true, false, false] #[true, true, true, false, true, true, true, false, true, true, false, false] rfl rfl rfl rfl (two_of HT_.out (by kernel_rfl)) (by decide) (by decide) (fun K hK => ?_) (fun K hK => ?_)
                            · skip; refine gO Try.func76 #[.agg #[.int .i64 a0_0, .int .i64 a0_1, .slice A0_2 l0_2.length c0_2], .int .i64 lo, .int .i64 hi] ?_
                              with_reducible refine (curve_part.calls _ _ A0_2 c0_2 _ _ _ _ _ _ _ (Kd.C_below HR0.out HB.out) HC0.out HP0.out).mono ?_
                              rintro e w_ ⟨v1, rfl, ho0, hb⟩; refine ⟨_, rfl, ?_⟩; have n0_ := Aside0.mk (Kd.R_lower ho0 (below_size HB.out)); have n1_ := Aside0.mk (blk_below B4.out hb); have n2_ := Aside0.mk (blk_below X9.out hb); have n3_ := Aside0.mk (E9.out); have n4_ := Aside0.mk (N49.out); have n5_ := Aside0.mk (N29.out); have n6_ := Aside0.mk (N39.out); have n7_ := Aside0.mk (below_step HB.out hb); refine hK.out _ _ (bca6 hb hHeld) (fun hHeld2 => ?_); clear hK K; refine norm_ (a' := ?_) ?_ ?_; rotate_left
                              · show Act.put _ (some 38) _ = _; simp only [Act.put, zs1, zs2, zs3, i64_w, i32_w]; rfl
                              exact norm_ (by first | (simp only [putAll, Act.put, zs1, zs2, zs3]; done) | (simp only [putAll, Act.put, zs1, zs2, zs3]; rfl)) (J_c1a2 (v1, g9) _ ⟨hHeld2, n0_.out, n1_.out, n2_.out, n3_.out, n4_.out, n5_.out, n6_.out, n7_.out⟩)
                            · skip; refine box_step ?hg (N := 8) ?hd (cs := #[.int .i64 0, .int .i64 0, .slice none 0 0]) (t := 24) ?hr ?_; (case hd => rfl); (case hg => rfl); (case hr => first | (go_simp; done) | (go_simp; rfl)); intro g8 hg w_ hbox hb; have n0_ := Aside0.mk (blk_below B4.out hb); have n1_ := Aside0.mk (hbox); have n2_ := Aside0.mk ((show w.heap.size ≤ g8 by rw [hg]; exact below_size HB.out)); have n3_ := Aside0.mk ((show g4 ≠ g8 by rw [hg]; exact Nat.ne_of_lt (blk_lt B4.out))); have n4_ := Aside0.mk ((show g2 ≠ g8 by rw [hg]; exact Nat.ne_of_lt (World.block_lt_of_cell? _ _ hHeld.1))); have n5_ := Aside0.mk ((show g3 ≠ g8 by rw [hg]; exact Nat.ne_of_lt (World.block_lt_of_cell? _ _ hHeld.2.2.2.1))); have n6_ := Aside0.mk (blk_below X9.out hb); have n7_ := Aside0.mk (E9.out); have n8_ := Aside0.mk (N49.out); have n9_ := Aside0.mk (N29.out); have n10_ := Aside0.mk (N39.out); have n11_ := Aside0.mk ((show g8 ≠ g9 by rw [hg]; exact Nat.ne_of_gt (blk_lt X9.out))); have n12_ := Aside0.mk (below_step HB.out hb); refine hK.out _ _ (bca6 hb hHeld) (fun hHeld2 => ?_); clear hK K; refine norm_ (a' := ?_) ?_ ?_; rotate_left
                              · show Act.put _ (some 8) _ = _; simp only [Act.put, zs1, zs2, zs3, i64_w, i32_w]; rfl
                              exact norm_ (by first | (simp only [putAll, Act.put, zs1, zs2, zs3]; done) | (simp only [putAll, Act.put, zs1, zs2, zs3]; rfl)) (J_a1a2 (g8, g9) _ ⟨hHeld2, n0_.out, n1_.out, n2_.out, n3_.out, n4_.out, n5_.out, n6_.out, n7_.out, n8_.out, n9_.out, n10_.out, n11_.out, n12_.out⟩)
                        · skip; rintro g8 w_ ⟨hS_, h0_, h1_, h2_, h3_, h4_, h5_, h6_⟩; clear B4 HB hHeld; have hHeld : (w_.cell? ⟨g2, 0, none⟩ = some (.int .i64 a0_0) ∧ w_.cell? ⟨g2, 1, none⟩ = some (.int .i64 a0_1) ∧ w_.cell? ⟨g2, 2, none⟩ = some (.slice A0_2 l0_2.length c0_2) ∧ w_.cell? ⟨g3, 0, none⟩ = some (.int .i64 a1_0) ∧ w_.cell? ⟨g3, 1, none⟩ = some (.int .i64 a1_1) ∧ w_.cell? ⟨g3, 2, none⟩ = some (.slice A1_2 l1_2.length c1_2)) := hS_; have B4 : Aside0 (w_.heap[g4]? = some (.cells #[.int .i64 0, .int .i64 0, .slice none 0 0] 24 (0, 0))) := ⟨h0_⟩; have X8 : Aside0 (w_.heap[g8]? = some (.cells #[.int .i64 0, .int .i64 0, .slice none 0 0] 24 (0, 0))) := ⟨h1_⟩; have E8 : Aside0 (w.heap.size ≤ g8) := ⟨h2_⟩; have N48 : Aside0 (g4 ≠ g8) := ⟨h3_⟩; have N28 : Aside0 (g2 ≠ g8) := ⟨h4_⟩; have N38 : Aside0 (g3 ≠ g8) := ⟨h5_⟩; have HB : Aside0 (Below w.heap.size w w_) := ⟨h6_⟩; clear hS_ h0_ h1_ h2_ h3_ h4_ h5_ h6_; refine norm_ (a' := ?_) ?_ ?_; rotate_left
                          · simp only [putAll, Act.put, zs1, zs2, zs3]; rfl
                          refine two_ (i := 3) (j := 9) (Ni := some 38) (Nj := some 9) #[true, true, true, true, true, true, true, false, true, false, false, false] #[true, true, true, false, true, true, true, false, true, true, false, false] rfl rfl rfl rfl (two_of HT_.out (by kernel_rfl)) (by decide) (by decide) (fun K hK => ?_) (fun K hK => ?_)
                          · skip; refine gO Try.func76 #[.agg #[.int .i64 a0_0, .int .i64 a0_1, .slice A0_2 l0_2.length c0_2], .int .i64 lo, .int .i64 hi] ?_
                            with_reducible refine (curve_part.calls _ _ A0_2 c0_2 _ _ _ _ _ _ _ (Kd.C_below HR0.out HB.out) HC0.out HP0.out).mono ?_
                            rintro e w_ ⟨v1, rfl, ho0, hb⟩; refine ⟨_, rfl, ?_⟩; have n0_ := Aside0.mk (Kd.R_lower ho0 (below_size HB.out)); have n1_ := Aside0.mk (blk_below B4.out hb); have n2_ := Aside0.mk (blk_below X8.out hb); have n3_ := Aside0.mk (E8.out); have n4_ := Aside0.mk (N48.out); have n5_ := Aside0.mk (N28.out); have n6_ := Aside0.mk (N38.out); have n7_ := Aside0.mk (below_step HB.out hb); refine hK.out _ _ (bca6 hb hHeld) (fun hHeld2 => ?_); clear hK K; refine norm_ (a' := ?_) ?_ ?_; rotate_left
                            · show Act.put _ (some 38) _ = _; simp only [Act.put, zs1, zs2, zs3, i64_w, i32_w]; rfl
                            exact norm_ (by first | (simp only [putAll, Act.put, zs1, zs2, zs3]; done) | (simp only [putAll, Act.put, zs1, zs2, zs3]; rfl)) (J_c1a1 (v1, g8) _ ⟨hHeld2, n0_.out, n1_.out, n2_.out, n3_.out, n4_.out, n5_.out, n6_.out, n7_.out⟩)
                          · skip; refine box_step ?hg (N := 9) ?hd (cs := #[.int .i64 0, .int .i64 0, .slice none 0 0]) (t := 24) ?hr ?_; (case hd => rfl); (case hg => rfl); (case hr => first | (go_simp; done) | (go_simp; rfl)); intro g9 hg w_ hbox hb; have n0_ := Aside0.mk (blk_below B4.out hb); have n1_ := Aside0.mk (blk_below X8.out hb); have n2_ := Aside0.mk (E8.out); have n3_ := Aside0.mk (N48.out); have n4_ := Aside0.mk (N28.out); have n5_ := Aside0.mk (N38.out); have n6_ := Aside0.mk (hbox); have n7_ := Aside0.mk ((show w.heap.size ≤ g9 by rw [hg]; exact below_size HB.out)); have n8_ := Aside0.mk ((show g4 ≠ g9 by rw [hg]; exact Nat.ne_of_lt (blk_lt B4.out))); have n9_ := Aside0.mk ((show g2 ≠ g9 by rw [hg]; exact Nat.ne_of_lt (World.block_lt_of_cell? _ _ hHeld.1))); have n10_ := Aside0.mk ((show g3 ≠ g9 by rw [hg]; exact Nat.ne_of_lt (World.block_lt_of_cell? _ _ hHeld.2.2.2.1))); have n11_ := Aside0.mk ((show g8 ≠ g9 by rw [hg]; exact Nat.ne_of_lt (blk_lt X8.out))); have n12_ := Aside0.mk (below_step HB.out hb); refine hK.out _ _ (bca6 hb hHeld) (fun hHeld2 => ?_); clear hK K; refine norm_ (a' := ?_) ?_ ?_; rotate_left
                            · show Act.put _ (some 9) _ = _; simp only [Act.put, zs1, zs2, zs3, i64_w, i32_w]; rfl
                            exact norm_ (by first | (simp only [putAll, Act.put, zs1, zs2, zs3]; done) | (simp only [putAll, Act.put, zs1, zs2, zs3]; rfl)) (J_a1a2 (g8, g9) _ ⟨hHeld2, n0_.out, n1_.out, n2_.out, n3_.out, n4_.out, n5_.out, n6_.out, n7_.out, n8_.out, n9_.out, n10_.out, n11_.out, n12_.out⟩)
                      · skip; rintro ⟨v1, v2⟩ w_ ⟨hS_, h0_, h1_, h2_, h3_⟩; clear B4 HB hHeld; have hHeld : (w_.cell? ⟨g2, 0, none⟩ = some (.int .i64 a0_0) ∧ w_.cell? ⟨g2, 1, none⟩ = some (.int .i64 a0_1) ∧ w_.cell? ⟨g2, 2, none⟩ = some (.slice A0_2 l0_2.length c0_2) ∧ w_.cell? ⟨g3, 0, none⟩ = some (.int .i64 a1_0) ∧ w_.cell? ⟨g3, 1, none⟩ = some (.int .i64 a1_1) ∧ w_.cell? ⟨g3, 2, none⟩ = some (.slice A1_2 l1_2.length c1_2)) := hS_; have R1 : Aside0 (Kd.R (Kd.int .i64) 3 w_ w.heap.size (fun k_ => some k_ ≠ (v2 : Value).ownBlock) v1 s1) := ⟨h0_⟩; have R2 : Aside0 (Kd.R (Kd.int .i64) 3 w_ w.heap.size (fun k_ => some k_ ≠ (v1 : Value).ownBlock) v2 s2) := ⟨h1_⟩; have B4 : Aside0 (w_.heap[g4]? = some (.cells #[.int .i64 0, .int .i64 0, .slice none 0 0] 24 (0, 0))) := ⟨h2_⟩; have HB : Aside0 (Below w.heap.size w w_) := ⟨h3_⟩; clear hS_ h0_ h1_ h2_ h3_; refine norm_ (a' := ?_) ?_ ?_; rotate_left
                        · simp only [putAll, Act.put, zs1, zs2, zs3]; rfl
                        refine two_ (i := 8) (j := 9) (Ni := some 8) (Nj := some 9) #[true, true, true, true, true, true, true, true, true, false, false, false] #[true, true, true, true, true, true, true, true, false, true, false, false] rfl rfl rfl rfl (two_of HT_.out (by kernel_rfl)) (by decide) (by decide) (fun K hK => ?_) (fun K hK => ?_)
                        · skip; refine box_step ?hg (N := 8) ?hd (cs := #[.int .i64 0, .int .i64 0, .slice none 0 0]) (t := 24) ?hr ?_; (case hd => rfl); (case hg => rfl); (case hr => first | (go_simp; done) | (go_simp; rfl)); intro g8 hg w_ hbox hb; have n0_ := Aside0.mk (Kd.R_below R1.out hb); have n1_ := Aside0.mk (Kd.R_below R2.out hb); have n2_ := Aside0.mk (blk_below B4.out hb); have n3_ := Aside0.mk (hbox); have n4_ := Aside0.mk ((show w.heap.size ≤ g8 by rw [hg]; exact below_size HB.out)); have n5_ := Aside0.mk ((show g4 ≠ g8 by rw [hg]; exact Nat.ne_of_lt (blk_lt B4.out))); have n6_ := Aside0.mk ((show g2 ≠ g8 by rw [hg]; exact Nat.ne_of_lt (World.block_lt_of_cell? _ _ hHeld.1))); have n7_ := Aside0.mk ((show g3 ≠ g8 by rw [hg]; exact Nat.ne_of_lt (World.block_lt_of_cell? _ _ hHeld.2.2.2.1))); have n8_ := Aside0.mk (below_step HB.out hb); refine hK.out _ _ (bca6 hb hHeld) (fun hHeld2 => ?_); clear hK K; refine norm_ (a' := ?_) ?_ ?_; rotate_left
                          · show Act.put _ (some 8) _ = _; simp only [Act.put, zs1, zs2, zs3, i64_w, i32_w]; rfl
                          exact norm_ (by first | (simp only [putAll, Act.put, zs1, zs2, zs3]; done) | (simp only [putAll, Act.put, zs1, zs2, zs3]; rfl)) (J_c1c2a1 (v1, v2, g8) _ ⟨hHeld2, n0_.out, n1_.out, n2_.out, n3_.out, n4_.out, n5_.out, n6_.out, n7_.out, n8_.out⟩)
                        · skip; refine box_step ?hg (N := 9) ?hd (cs := #[.int .i64 0, .int .i64 0, .slice none 0 0]) (t := 24) ?hr ?_; (case hd => rfl); (case hg => rfl); (case hr => first | (go_simp; done) | (go_simp; rfl)); intro g9 hg w_ hbox hb; have n0_ := Aside0.mk (Kd.R_below R1.out hb); have n1_ := Aside0.mk (Kd.R_below R2.out hb); have n2_ := Aside0.mk (blk_below B4.out hb); have n3_ := Aside0.mk (hbox); have n4_ := Aside0.mk ((show w.heap.size ≤ g9 by rw [hg]; exact below_size HB.out)); have n5_ := Aside0.mk ((show g4 ≠ g9 by rw [hg]; exact Nat.ne_of_lt (blk_lt B4.out))); have n6_ := Aside0.mk ((show g2 ≠ g9 by rw [hg]; exact Nat.ne_of_lt (World.block_lt_of_cell? _ _ hHeld.1))); have n7_ := Aside0.mk ((show g3 ≠ g9 by rw [hg]; exact Nat.ne_of_lt (World.block_lt_of_cell? _ _ hHeld.2.2.2.1))); have n8_ := Aside0.mk (below_step HB.out hb); refine hK.out _ _ (bca6 hb hHeld) (fun hHeld2 => ?_); clear hK K; refine norm_ (a' := ?_) ?_ ?_; rotate_left
                          · show Act.put _ (some 9) _ = _; simp only [Act.put, zs1, zs2, zs3, i64_w, i32_w]; rfl
                          exact norm_ (by first | (simp only [putAll, Act.put, zs1, zs2, zs3]; done) | (simp only [putAll, Act.put, zs1, zs2, zs3]; rfl)) (J_c1c2a2 (v1, v2, g9) _ ⟨hHeld2, n0_.out, n1_.out, n2_.out, n3_.out, n4_.out, n5_.out, n6_.out, n7_.out, n8_.out⟩)
                    · skip; rintro ⟨v1, g9⟩ w_ ⟨hS_, h0_, h1_, h2_, h3_, h4_, h5_, h6_, h7_⟩; clear B4 HB hHeld; have hHeld : (w_.cell? ⟨g2, 0, none⟩ = some (.int .i64 a0_0) ∧ w_.cell? ⟨g2, 1, none⟩ = some (.int .i64 a0_1) ∧ w_.cell? ⟨g2, 2, none⟩ = some (.slice A0_2 l0_2.length c0_2) ∧ w_.cell? ⟨g3, 0, none⟩ = some (.int .i64 a1_0) ∧ w_.cell? ⟨g3, 1, none⟩ = some (.int .i64 a1_1) ∧ w_.cell? ⟨g3, 2, none⟩ = some (.slice A1_2 l1_2.length c1_2)) := hS_; have R1 : Aside0 (Kd.R (Kd.int .i64) 3 w_ w.heap.size (fun _ => True) v1 s1) := ⟨h0_⟩; have B4 : Aside0 (w_.heap[g4]? = some (.cells #[.int .i64 0, .int .i64 0, .slice none 0 0] 24 (0, 0))) := ⟨h1_⟩; have X9 : Aside0 (w_.heap[g9]? = some (.cells #[.int .i64 0, .int .i64 0, .slice none 0 0] 24 (0, 0))) := ⟨h2_⟩; have E9 : Aside0 (w.heap.size ≤ g9) := ⟨h3_⟩; have N49 : Aside0 (g4 ≠ g9) := ⟨h4_⟩; have N29 : Aside0 (g2 ≠ g9) := ⟨h5_⟩; have N39 : Aside0 (g3 ≠ g9) := ⟨h6_⟩; have HB : Aside0 (Below w.heap.size w w_) := ⟨h7_⟩; clear hS_ h0_ h1_ h2_ h3_ h4_ h5_ h6_ h7_; refine norm_ (a' := ?_) ?_ ?_; rotate_left
                      · simp only [putAll, Act.put, zs1, zs2, zs3]; rfl
                      refine two_ (i := 7) (j := 8) (Ni := some 42) (Nj := some 8) #[true, true, true, true, true, true, true, true, false, true, false, false] #[true, true, true, true, true, true, true, false, true, true, false, false] rfl rfl rfl rfl (two_of HT_.out (by kernel_rfl)) (by decide) (by decide) (fun K hK => ?_) (fun K hK => ?_)
                      · skip; refine gO Try.func76 #[.agg #[.int .i64 a1_0, .int .i64 a1_1, .slice A1_2 l1_2.length c1_2], .int .i64 lo, .int .i64 hi] ?_
                        with_reducible refine (curve_part.calls _ _ A1_2 c1_2 _ _ _ _ _ _ _ (Kd.C_below HR1.out HB.out) HC1.out HP1.out).mono ?_
                        rintro e w_ ⟨v2, rfl, ho0, hb⟩; refine ⟨_, rfl, ?_⟩; have n0_ := Aside0.mk (Kd.R_mono (Kd.R_elder' R1.out (Kd.R_base ho0) hb) (fun k hk => hk.2)); have n1_ := Aside0.mk (Kd.R_mono (Kd.R_lower (Kd.R_new' ho0 (Kd.R_lt R1.out)) (below_size HB.out)) (fun k hk => hk.2)); have n2_ := Aside0.mk (blk_below B4.out hb); have n3_ := Aside0.mk (blk_below X9.out hb); have n4_ := Aside0.mk (E9.out); have n5_ := Aside0.mk (N49.out); have n6_ := Aside0.mk (N29.out); have n7_ := Aside0.mk (N39.out); have n8_ := Aside0.mk (below_step HB.out hb); refine hK.out _ _ (bca6 hb hHeld) (fun hHeld2 => ?_); clear hK K; refine norm_ (a' := ?_) ?_ ?_; rotate_left
                        · show Act.put _ (some 42) _ = _; simp only [Act.put, zs1, zs2, zs3, i64_w, i32_w]; rfl
                        exact norm_ (by first | (simp only [putAll, Act.put, zs1, zs2, zs3]; done) | (simp only [putAll, Act.put, zs1, zs2, zs3]; rfl)) (J_c1c2a2 (v1, v2, g9) _ ⟨hHeld2, n0_.out, n1_.out, n2_.out, n3_.out, n4_.out, n5_.out, n6_.out, n7_.out, n8_.out⟩)
                      · skip; refine box_step ?hg (N := 8) ?hd (cs := #[.int .i64 0, .int .i64 0, .slice none 0 0]) (t := 24) ?hr ?_; (case hd => rfl); (case hg => rfl); (case hr => first | (go_simp; done) | (go_simp; rfl)); intro g8 hg w_ hbox hb; have n0_ := Aside0.mk (Kd.R_below R1.out hb); have n1_ := Aside0.mk (blk_below B4.out hb); have n2_ := Aside0.mk (hbox); have n3_ := Aside0.mk ((show w.heap.size ≤ g8 by rw [hg]; exact below_size HB.out)); have n4_ := Aside0.mk ((show g4 ≠ g8 by rw [hg]; exact Nat.ne_of_lt (blk_lt B4.out))); have n5_ := Aside0.mk ((show g2 ≠ g8 by rw [hg]; exact Nat.ne_of_lt (World.block_lt_of_cell? _ _ hHeld.1))); have n6_ := Aside0.mk ((show g3 ≠ g8 by rw [hg]; exact Nat.ne_of_lt (World.block_lt_of_cell? _ _ hHeld.2.2.2.1))); have n7_ := Aside0.mk (blk_below X9.out hb); have n8_ := Aside0.mk (E9.out); have n9_ := Aside0.mk (N49.out); have n10_ := Aside0.mk (N29.out); have n11_ := Aside0.mk (N39.out); have n12_ := Aside0.mk ((show g8 ≠ g9 by rw [hg]; exact Nat.ne_of_gt (blk_lt X9.out))); have n13_ := Aside0.mk (below_step HB.out hb); refine hK.out _ _ (bca6 hb hHeld) (fun hHeld2 => ?_); clear hK K; refine norm_ (a' := ?_) ?_ ?_; rotate_left
                        · show Act.put _ (some 8) _ = _; simp only [Act.put, zs1, zs2, zs3, i64_w, i32_w]; rfl
                        exact norm_ (by first | (simp only [putAll, Act.put, zs1, zs2, zs3]; done) | (simp only [putAll, Act.put, zs1, zs2, zs3]; rfl)) (J_c1a1a2 (v1, g8, g9) _ ⟨hHeld2, n0_.out, n1_.out, n2_.out, n3_.out, n4_.out, n5_.out, n6_.out, n7_.out, n8_.out, n9_.out, n10_.out, n11_.out, n12_.out, n13_.out⟩)
                  · skip; rintro ⟨v1, g8⟩ w_ ⟨hS_, h0_, h1_, h2_, h3_, h4_, h5_, h6_, h7_⟩; clear B4 HB hHeld; have hHeld : (w_.cell? ⟨g2, 0, none⟩ = some (.int .i64 a0_0) ∧ w_.cell? ⟨g2, 1, none⟩ = some (.int .i64 a0_1) ∧ w_.cell? ⟨g2, 2, none⟩ = some (.slice A0_2 l0_2.length c0_2) ∧ w_.cell? ⟨g3, 0, none⟩ = some (.int .i64 a1_0) ∧ w_.cell? ⟨g3, 1, none⟩ = some (.int .i64 a1_1) ∧ w_.cell? ⟨g3, 2, none⟩ = some (.slice A1_2 l1_2.length c1_2)) := hS_; have R1 : Aside0 (Kd.R (Kd.int .i64) 3 w_ w.heap.size (fun _ => True) v1 s1) := ⟨h0_⟩; have B4 : Aside0 (w_.heap[g4]? = some (.cells #[.int .i64 0, .int .i64 0, .slice none 0 0] 24 (0, 0))) := ⟨h1_⟩; have X8 : Aside0 (w_.heap[g8]? = some (.cells #[.int .i64 0, .int .i64 0, .slice none 0 0] 24 (0, 0))) := ⟨h2_⟩; have E8 : Aside0 (w.heap.size ≤ g8) := ⟨h3_⟩; have N48 : Aside0 (g4 ≠ g8) := ⟨h4_⟩; have N28 : Aside0 (g2 ≠ g8) := ⟨h5_⟩; have N38 : Aside0 (g3 ≠ g8) := ⟨h6_⟩; have HB : Aside0 (Below w.heap.size w w_) := ⟨h7_⟩; clear hS_ h0_ h1_ h2_ h3_ h4_ h5_ h6_ h7_; refine norm_ (a' := ?_) ?_ ?_; rotate_left
                    · simp only [putAll, Act.put, zs1, zs2, zs3]; rfl
                    refine two_ (i := 7) (j := 9) (Ni := some 42) (Nj := some 9) #[true, true, true, true, true, true, true, true, true, false, false, false] #[true, true, true, true, true, true, true, false, true, true, false, false] rfl rfl rfl rfl (two_of HT_.out (by kernel_rfl)) (by decide) (by decide) (fun K hK => ?_) (fun K hK => ?_)
                    · skip; refine gO Try.func76 #[.agg #[.int .i64 a1_0, .int .i64 a1_1, .slice A1_2 l1_2.length c1_2], .int .i64 lo, .int .i64 hi] ?_
                      with_reducible refine (curve_part.calls _ _ A1_2 c1_2 _ _ _ _ _ _ _ (Kd.C_below HR1.out HB.out) HC1.out HP1.out).mono ?_
                      rintro e w_ ⟨v2, rfl, ho0, hb⟩; refine ⟨_, rfl, ?_⟩; have n0_ := Aside0.mk (Kd.R_mono (Kd.R_elder' R1.out (Kd.R_base ho0) hb) (fun k hk => hk.2)); have n1_ := Aside0.mk (Kd.R_mono (Kd.R_lower (Kd.R_new' ho0 (Kd.R_lt R1.out)) (below_size HB.out)) (fun k hk => hk.2)); have n2_ := Aside0.mk (blk_below B4.out hb); have n3_ := Aside0.mk (blk_below X8.out hb); have n4_ := Aside0.mk (E8.out); have n5_ := Aside0.mk (N48.out); have n6_ := Aside0.mk (N28.out); have n7_ := Aside0.mk (N38.out); have n8_ := Aside0.mk (below_step HB.out hb); refine hK.out _ _ (bca6 hb hHeld) (fun hHeld2 => ?_); clear hK K; refine norm_ (a' := ?_) ?_ ?_; rotate_left
                      · show Act.put _ (some 42) _ = _; simp only [Act.put, zs1, zs2, zs3, i64_w, i32_w]; rfl
                      exact norm_ (by first | (simp only [putAll, Act.put, zs1, zs2, zs3]; done) | (simp only [putAll, Act.put, zs1, zs2, zs3]; rfl)) (J_c1c2a1 (v1, v2, g8) _ ⟨hHeld2, n0_.out, n1_.out, n2_.out, n3_.out, n4_.out, n5_.out, n6_.out, n7_.out, n8_.out⟩)
                    · skip; refine box_step ?hg (N := 9) ?hd (cs := #[.int .i64 0, .int .i64 0, .slice none 0 0]) (t := 24) ?hr ?_; (case hd => rfl); (case hg => rfl); (case hr => first | (go_simp; done) | (go_simp; rfl)); intro g9 hg w_ hbox hb; have n0_ := Aside0.mk (Kd.R_below R1.out hb); have n1_ := Aside0.mk (blk_below B4.out hb); have n2_ := Aside0.mk (blk_below X8.out hb); have n3_ := Aside0.mk (E8.out); have n4_ := Aside0.mk (N48.out); have n5_ := Aside0.mk (N28.out); have n6_ := Aside0.mk (N38.out); have n7_ := Aside0.mk (hbox); have n8_ := Aside0.mk ((show w.heap.size ≤ g9 by rw [hg]; exact below_size HB.out)); have n9_ := Aside0.mk ((show g4 ≠ g9 by rw [hg]; exact Nat.ne_of_lt (blk_lt B4.out))); have n10_ := Aside0.mk ((show g2 ≠ g9 by rw [hg]; exact Nat.ne_of_lt (World.block_lt_of_cell? _ _ hHeld.1))); have n11_ := Aside0.mk ((show g3 ≠ g9 by rw [hg]; exact Nat.ne_of_lt (World.block_lt_of_cell? _ _ hHeld.2.2.2.1))); have n12_ := Aside0.mk ((show g8 ≠ g9 by rw [hg]; exact Nat.ne_of_lt (blk_lt X8.out))); have n13_ := Aside0.mk (below_step HB.out hb); refine hK.out _ _ (bca6 hb hHeld) (fun hHeld2 => ?_); clear hK K; refine norm_ (a' := ?_) ?_ ?_; rotate_left
                      · show Act.put _ (some 9) _ = _; simp only [Act.put, zs1, zs2, zs3, i64_w, i32_w]; rfl
                      exact norm_ (by first | (simp only [putAll, Act.put, zs1, zs2, zs3]; done) | (simp only [putAll, Act.put, zs1, zs2, zs3]; rfl)) (J_c1a1a2 (v1, g8, g9) _ ⟨hHeld2, n0_.out, n1_.out, n2_.out, n3_.out, n4_.out, n5_.out, n6_.out, n7_.out, n8_.out, n9_.out, n10_.out, n11_.out, n12_.out, n13_.out⟩)
                · skip; rintro ⟨g8, g9⟩ w_ ⟨hS_, h0_, h1_, h2_, h3_, h4_, h5_, h6_, h7_, h8_, h9_, h10_, h11_, h12_⟩; clear B4 HB hHeld; have hHeld : (w_.cell? ⟨g2, 0, none⟩ = some (.int .i64 a0_0) ∧ w_.cell? ⟨g2, 1, none⟩ = some (.int .i64 a0_1) ∧ w_.cell? ⟨g2, 2, none⟩ = some (.slice A0_2 l0_2.length c0_2) ∧ w_.cell? ⟨g3, 0, none⟩ = some (.int .i64 a1_0) ∧ w_.cell? ⟨g3, 1, none⟩ = some (.int .i64 a1_1) ∧ w_.cell? ⟨g3, 2, none⟩ = some (.slice A1_2 l1_2.length c1_2)) := hS_; have B4 : Aside0 (w_.heap[g4]? = some (.cells #[.int .i64 0, .int .i64 0, .slice none 0 0] 24 (0, 0))) := ⟨h0_⟩; have X8 : Aside0 (w_.heap[g8]? = some (.cells #[.int .i64 0, .int .i64 0, .slice none 0 0] 24 (0, 0))) := ⟨h1_⟩; have E8 : Aside0 (w.heap.size ≤ g8) := ⟨h2_⟩; have N48 : Aside0 (g4 ≠ g8) := ⟨h3_⟩; have N28 : Aside0 (g2 ≠ g8) := ⟨h4_⟩; have N38 : Aside0 (g3 ≠ g8) := ⟨h5_⟩; have X9 : Aside0 (w_.heap[g9]? = some (.cells #[.int .i64 0, .int .i64 0, .slice none 0 0] 24 (0, 0))) := ⟨h6_⟩; have E9 : Aside0 (w.heap.size ≤ g9) := ⟨h7_⟩; have N49 : Aside0 (g4 ≠ g9) := ⟨h8_⟩; have N29 : Aside0 (g2 ≠ g9) := ⟨h9_⟩; have N39 : Aside0 (g3 ≠ g9) := ⟨h10_⟩; have N89 : Aside0 (g8 ≠ g9) := ⟨h11_⟩; have HB : Aside0 (Below w.heap.size w w_) := ⟨h12_⟩; clear hS_ h0_ h1_ h2_ h3_ h4_ h5_ h6_ h7_ h8_ h9_ h10_ h11_ h12_; refine norm_ (a' := ?_) ?_ ?_; rotate_left
                  · simp only [putAll, Act.put, zs1, zs2, zs3]; rfl
                  refine one_ (i := 3) (N := some 38) #[true, true, true, true, true, true, true, false, true, true, false, false] rfl rfl (one_of HT_.out (by kernel_rfl)) (by decide) (fun K hK => ?_); refine gO Try.func76 #[.agg #[.int .i64 a0_0, .int .i64 a0_1, .slice A0_2 l0_2.length c0_2], .int .i64 lo, .int .i64 hi] ?_
                  with_reducible refine (curve_part.calls _ _ A0_2 c0_2 _ _ _ _ _ _ _ (Kd.C_below HR0.out HB.out) HC0.out HP0.out).mono ?_
                  rintro e w_ ⟨v1, rfl, ho0, hb⟩; refine ⟨_, rfl, ?_⟩; have n0_ := Aside0.mk (Kd.R_lower ho0 (below_size HB.out)); have n1_ := Aside0.mk (blk_below B4.out hb); have n2_ := Aside0.mk (blk_below X8.out hb); have n3_ := Aside0.mk (E8.out); have n4_ := Aside0.mk (N48.out); have n5_ := Aside0.mk (N28.out); have n6_ := Aside0.mk (N38.out); have n7_ := Aside0.mk (blk_below X9.out hb); have n8_ := Aside0.mk (E9.out); have n9_ := Aside0.mk (N49.out); have n10_ := Aside0.mk (N29.out); have n11_ := Aside0.mk (N39.out); have n12_ := Aside0.mk (N89.out); have n13_ := Aside0.mk (below_step HB.out hb); refine hK.out _ _ (bca6 hb hHeld) (fun hHeld2 => ?_); clear hK K; refine norm_ (a' := ?_) ?_ ?_; rotate_left
                  · show Act.put _ (some 38) _ = _; simp only [Act.put, zs1, zs2, zs3, i64_w, i32_w]; rfl
                  exact norm_ (by first | (simp only [putAll, Act.put, zs1, zs2, zs3]; done) | (simp only [putAll, Act.put, zs1, zs2, zs3]; rfl)) (J_c1a1a2 (v1, g8, g9) _ ⟨hHeld2, n0_.out, n1_.out, n2_.out, n3_.out, n4_.out, n5_.out, n6_.out, n7_.out, n8_.out, n9_.out, n10_.out, n11_.out, n12_.out, n13_.out⟩)
              · skip; rintro ⟨v1, v2, g9⟩ w_ ⟨hS_, h0_, h1_, h2_, h3_, h4_, h5_, h6_, h7_, h8_⟩; clear B4 HB hHeld; have hHeld : (w_.cell? ⟨g2, 0, none⟩ = some (.int .i64 a0_0) ∧ w_.cell? ⟨g2, 1, none⟩ = some (.int .i64 a0_1) ∧ w_.cell? ⟨g2, 2, none⟩ = some (.slice A0_2 l0_2.length c0_2) ∧ w_.cell? ⟨g3, 0, none⟩ = some (.int .i64 a1_0) ∧ w_.cell? ⟨g3, 1, none⟩ = some (.int .i64 a1_1) ∧ w_.cell? ⟨g3, 2, none⟩ = some (.slice A1_2 l1_2.length c1_2)) := hS_; have R1 : Aside0 (Kd.R (Kd.int .i64) 3 w_ w.heap.size (fun k_ => some k_ ≠ (v2 : Value).ownBlock) v1 s1) := ⟨h0_⟩; have R2 : Aside0 (Kd.R (Kd.int .i64) 3 w_ w.heap.size (fun k_ => some k_ ≠ (v1 : Value).ownBlock) v2 s2) := ⟨h1_⟩; have B4 : Aside0 (w_.heap[g4]? = some (.cells #[.int .i64 0, .int .i64 0, .slice none 0 0] 24 (0, 0))) := ⟨h2_⟩; have X9 : Aside0 (w_.heap[g9]? = some (.cells #[.int .i64 0, .int .i64 0, .slice none 0 0] 24 (0, 0))) := ⟨h3_⟩; have E9 : Aside0 (w.heap.size ≤ g9) := ⟨h4_⟩; have N49 : Aside0 (g4 ≠ g9) := ⟨h5_⟩; have N29 : Aside0 (g2 ≠ g9) := ⟨h6_⟩; have N39 : Aside0 (g3 ≠ g9) := ⟨h7_⟩; have HB : Aside0 (Below w.heap.size w w_) := ⟨h8_⟩; clear hS_ h0_ h1_ h2_ h3_ h4_ h5_ h6_ h7_ h8_; refine norm_ (a' := ?_) ?_ ?_; rotate_left
                · simp only [putAll, Act.put, zs1, zs2, zs3]; rfl
                refine one_ (i := 8) (N := some 8) #[true, true, true, true, true, true, true, true, true, true, false, false] rfl rfl (one_of HT_.out (by kernel_rfl)) (by decide) (fun K hK => ?_); refine box_step ?hg (N := 8) ?hd (cs := #[.int .i64 0, .int .i64 0, .slice none 0 0]) (t := 24) ?hr ?_; (case hd => rfl); (case hg => rfl); (case hr => first | (go_simp; done) | (go_simp; rfl)); intro g8 hg w_ hbox hb; have n0_ := Aside0.mk (Kd.R_below R1.out hb); have n1_ := Aside0.mk (Kd.R_below R2.out hb); have n2_ := Aside0.mk (blk_below B4.out hb); have n3_ := Aside0.mk (hbox); have n4_ := Aside0.mk ((show w.heap.size ≤ g8 by rw [hg]; exact below_size HB.out)); have n5_ := Aside0.mk ((show g4 ≠ g8 by rw [hg]; exact Nat.ne_of_lt (blk_lt B4.out))); have n6_ := Aside0.mk ((show g2 ≠ g8 by rw [hg]; exact Nat.ne_of_lt (World.block_lt_of_cell? _ _ hHeld.1))); have n7_ := Aside0.mk ((show g3 ≠ g8 by rw [hg]; exact Nat.ne_of_lt (World.block_lt_of_cell? _ _ hHeld.2.2.2.1))); have n8_ := Aside0.mk (blk_below X9.out hb); have n9_ := Aside0.mk (E9.out); have n10_ := Aside0.mk (N49.out); have n11_ := Aside0.mk (N29.out); have n12_ := Aside0.mk (N39.out); have n13_ := Aside0.mk ((show g8 ≠ g9 by rw [hg]; exact Nat.ne_of_gt (blk_lt X9.out))); have n14_ := Aside0.mk (below_step HB.out hb); refine hK.out _ _ (bca6 hb hHeld) (fun hHeld2 => ?_); clear hK K; refine norm_ (a' := ?_) ?_ ?_; rotate_left
                · show Act.put _ (some 8) _ = _; simp only [Act.put, zs1, zs2, zs3, i64_w, i32_w]; rfl
                exact norm_ (by first | (simp only [putAll, Act.put, zs1, zs2, zs3]; done) | (simp only [putAll, Act.put, zs1, zs2, zs3]; rfl)) (J_c1c2a1a2 (v1, v2, g8, g9) _ ⟨hHeld2, n0_.out, n1_.out, n2_.out, n3_.out, n4_.out, n5_.out, n6_.out, n7_.out, n8_.out, n9_.out, n10_.out, n11_.out, n12_.out, n13_.out, n14_.out⟩)
            · skip; rintro ⟨v1, v2, g8⟩ w_ ⟨hS_, h0_, h1_, h2_, h3_, h4_, h5_, h6_, h7_, h8_⟩; clear B4 HB hHeld; have hHeld : (w_.cell? ⟨g2, 0, none⟩ = some (.int .i64 a0_0) ∧ w_.cell? ⟨g2, 1, none⟩ = some (.int .i64 a0_1) ∧ w_.cell? ⟨g2, 2, none⟩ = some (.slice A0_2 l0_2.length c0_2) ∧ w_.cell? ⟨g3, 0, none⟩ = some (.int .i64 a1_0) ∧ w_.cell? ⟨g3, 1, none⟩ = some (.int .i64 a1_1) ∧ w_.cell? ⟨g3, 2, none⟩ = some (.slice A1_2 l1_2.length c1_2)) := hS_; have R1 : Aside0 (Kd.R (Kd.int .i64) 3 w_ w.heap.size (fun k_ => some k_ ≠ (v2 : Value).ownBlock) v1 s1) := ⟨h0_⟩; have R2 : Aside0 (Kd.R (Kd.int .i64) 3 w_ w.heap.size (fun k_ => some k_ ≠ (v1 : Value).ownBlock) v2 s2) := ⟨h1_⟩; have B4 : Aside0 (w_.heap[g4]? = some (.cells #[.int .i64 0, .int .i64 0, .slice none 0 0] 24 (0, 0))) := ⟨h2_⟩; have X8 : Aside0 (w_.heap[g8]? = some (.cells #[.int .i64 0, .int .i64 0, .slice none 0 0] 24 (0, 0))) := ⟨h3_⟩; have E8 : Aside0 (w.heap.size ≤ g8) := ⟨h4_⟩; have N48 : Aside0 (g4 ≠ g8) := ⟨h5_⟩; have N28 : Aside0 (g2 ≠ g8) := ⟨h6_⟩; have N38 : Aside0 (g3 ≠ g8) := ⟨h7_⟩; have HB : Aside0 (Below w.heap.size w w_) := ⟨h8_⟩; clear hS_ h0_ h1_ h2_ h3_ h4_ h5_ h6_ h7_ h8_; refine norm_ (a' := ?_) ?_ ?_; rotate_left
              · simp only [putAll, Act.put, zs1, zs2, zs3]; rfl
              refine one_ (i := 9) (N := some 9) #[true, true, true, true, true, true, true, true, true, true, false, false] rfl rfl (one_of HT_.out (by kernel_rfl)) (by decide) (fun K hK => ?_); refine box_step ?hg (N := 9) ?hd (cs := #[.int .i64 0, .int .i64 0, .slice none 0 0]) (t := 24) ?hr ?_; (case hd => rfl); (case hg => rfl); (case hr => first | (go_simp; done) | (go_simp; rfl)); intro g9 hg w_ hbox hb; have n0_ := Aside0.mk (Kd.R_below R1.out hb); have n1_ := Aside0.mk (Kd.R_below R2.out hb); have n2_ := Aside0.mk (blk_below B4.out hb); have n3_ := Aside0.mk (blk_below X8.out hb); have n4_ := Aside0.mk (E8.out); have n5_ := Aside0.mk (N48.out); have n6_ := Aside0.mk (N28.out); have n7_ := Aside0.mk (N38.out); have n8_ := Aside0.mk (hbox); have n9_ := Aside0.mk ((show w.heap.size ≤ g9 by rw [hg]; exact below_size HB.out)); have n10_ := Aside0.mk ((show g4 ≠ g9 by rw [hg]; exact Nat.ne_of_lt (blk_lt B4.out))); have n11_ := Aside0.mk ((show g2 ≠ g9 by rw [hg]; exact Nat.ne_of_lt (World.block_lt_of_cell? _ _ hHeld.1))); have n12_ := Aside0.mk ((show g3 ≠ g9 by rw [hg]; exact Nat.ne_of_lt (World.block_lt_of_cell? _ _ hHeld.2.2.2.1))); have n13_ := Aside0.mk ((show g8 ≠ g9 by rw [hg]; exact Nat.ne_of_lt (blk_lt X8.out))); have n14_ := Aside0.mk (below_step HB.out hb); refine hK.out _ _ (bca6 hb hHeld) (fun hHeld2 => ?_); clear hK K; refine norm_ (a' := ?_) ?_ ?_; rotate_left
              · show Act.put _ (some 9) _ = _; simp only [Act.put, zs1, zs2, zs3, i64_w, i32_w]; rfl
              exact norm_ (by first | (simp only [putAll, Act.put, zs1, zs2, zs3]; done) | (simp only [putAll, Act.put, zs1, zs2, zs3]; rfl)) (J_c1c2a1a2 (v1, v2, g8, g9) _ ⟨hHeld2, n0_.out, n1_.out, n2_.out, n3_.out, n4_.out, n5_.out, n6_.out, n7_.out, n8_.out, n9_.out, n10_.out, n11_.out, n12_.out, n13_.out, n14_.out⟩)
          · skip; rintro ⟨v1, g8, g9⟩ w_ ⟨hS_, h0_, h1_, h2_, h3_, h4_, h5_, h6_, h7_, h8_, h9_, h10_, h11_, h12_, h13_⟩; clear B4 HB hHeld; have hHeld : (w_.cell? ⟨g2, 0, none⟩ = some (.int .i64 a0_0) ∧ w_.cell? ⟨g2, 1, none⟩ = some (.int .i64 a0_1) ∧ w_.cell? ⟨g2, 2, none⟩ = some (.slice A0_2 l0_2.length c0_2) ∧ w_.cell? ⟨g3, 0, none⟩ = some (.int .i64 a1_0) ∧ w_.cell? ⟨g3, 1, none⟩ = some (.int .i64 a1_1) ∧ w_.cell? ⟨g3, 2, none⟩ = some (.slice A1_2 l1_2.length c1_2)) := hS_; have R1 : Aside0 (Kd.R (Kd.int .i64) 3 w_ w.heap.size (fun _ => True) v1 s1) := ⟨h0_⟩; have B4 : Aside0 (w_.heap[g4]? = some (.cells #[.int .i64 0, .int .i64 0, .slice none 0 0] 24 (0, 0))) := ⟨h1_⟩; have X8 : Aside0 (w_.heap[g8]? = some (.cells #[.int .i64 0, .int .i64 0, .slice none 0 0] 24 (0, 0))) := ⟨h2_⟩; have E8 : Aside0 (w.heap.size ≤ g8) := ⟨h3_⟩; have N48 : Aside0 (g4 ≠ g8) := ⟨h4_⟩; have N28 : Aside0 (g2 ≠ g8) := ⟨h5_⟩; have N38 : Aside0 (g3 ≠ g8) := ⟨h6_⟩; have X9 : Aside0 (w_.heap[g9]? = some (.cells #[.int .i64 0, .int .i64 0, .slice none 0 0] 24 (0, 0))) := ⟨h7_⟩; have E9 : Aside0 (w.heap.size ≤ g9) := ⟨h8_⟩; have N49 : Aside0 (g4 ≠ g9) := ⟨h9_⟩; have N29 : Aside0 (g2 ≠ g9) := ⟨h10_⟩; have N39 : Aside0 (g3 ≠ g9) := ⟨h11_⟩; have N89 : Aside0 (g8 ≠ g9) := ⟨h12_⟩; have HB : Aside0 (Below w.heap.size w w_) := ⟨h13_⟩; clear hS_ h0_ h1_ h2_ h3_ h4_ h5_ h6_ h7_ h8_ h9_ h10_ h11_ h12_ h13_; refine norm_ (a' := ?_) ?_ ?_; rotate_left
            · simp only [putAll, Act.put, zs1, zs2, zs3]; rfl
            refine one_ (i := 7) (N := some 42) #[true, true, true, true, true, true, true, true, true, true, false, false] rfl rfl (one_of HT_.out (by kernel_rfl)) (by decide) (fun K hK => ?_); refine gO Try.func76 #[.agg #[.int .i64 a1_0, .int .i64 a1_1, .slice A1_2 l1_2.length c1_2], .int .i64 lo, .int .i64 hi] ?_
            with_reducible refine (curve_part.calls _ _ A1_2 c1_2 _ _ _ _ _ _ _ (Kd.C_below HR1.out HB.out) HC1.out HP1.out).mono ?_
            rintro e w_ ⟨v2, rfl, ho0, hb⟩; refine ⟨_, rfl, ?_⟩; have n0_ := Aside0.mk (Kd.R_mono (Kd.R_elder' R1.out (Kd.R_base ho0) hb) (fun k hk => hk.2)); have n1_ := Aside0.mk (Kd.R_mono (Kd.R_lower (Kd.R_new' ho0 (Kd.R_lt R1.out)) (below_size HB.out)) (fun k hk => hk.2)); have n2_ := Aside0.mk (blk_below B4.out hb); have n3_ := Aside0.mk (blk_below X8.out hb); have n4_ := Aside0.mk (E8.out); have n5_ := Aside0.mk (N48.out); have n6_ := Aside0.mk (N28.out); have n7_ := Aside0.mk (N38.out); have n8_ := Aside0.mk (blk_below X9.out hb); have n9_ := Aside0.mk (E9.out); have n10_ := Aside0.mk (N49.out); have n11_ := Aside0.mk (N29.out); have n12_ := Aside0.mk (N39.out); have n13_ := Aside0.mk (N89.out); have n14_ := Aside0.mk (below_step HB.out hb); refine hK.out _ _ (bca6 hb hHeld) (fun hHeld2 => ?_); clear hK K; refine norm_ (a' := ?_) ?_ ?_; rotate_left
            · show Act.put _ (some 42) _ = _; simp only [Act.put, zs1, zs2, zs3, i64_w, i32_w]; rfl
            exact norm_ (by first | (simp only [putAll, Act.put, zs1, zs2, zs3]; done) | (simp only [putAll, Act.put, zs1, zs2, zs3]; rfl)) (J_c1c2a1a2 (v1, v2, g8, g9) _ ⟨hHeld2, n0_.out, n1_.out, n2_.out, n3_.out, n4_.out, n5_.out, n6_.out, n7_.out, n8_.out, n9_.out, n10_.out, n11_.out, n12_.out, n13_.out, n14_.out⟩)
        · skip; rintro ⟨v1, v2, g8, g9⟩ w_ ⟨hS_, h0_, h1_, h2_, h3_, h4_, h5_, h6_, h7_, h8_, h9_, h10_, h11_, h12_, h13_, h14_⟩; clear B4 HB hHeld; have hHeld : (w_.cell? ⟨g2, 0, none⟩ = some (.int .i64 a0_0) ∧ w_.cell? ⟨g2, 1, none⟩ = some (.int .i64 a0_1) ∧ w_.cell? ⟨g2, 2, none⟩ = some (.slice A0_2 l0_2.length c0_2) ∧ w_.cell? ⟨g3, 0, none⟩ = some (.int .i64 a1_0) ∧ w_.cell? ⟨g3, 1, none⟩ = some (.int .i64 a1_1) ∧ w_.cell? ⟨g3, 2, none⟩ = some (.slice A1_2 l1_2.length c1_2)) := hS_; have R1 : Aside0 (Kd.R (Kd.int .i64) 3 w_ w.heap.size (fun k_ => some k_ ≠ (v2 : Value).ownBlock) v1 s1) := ⟨h0_⟩; have R2 : Aside0 (Kd.R (Kd.int .i64) 3 w_ w.heap.size (fun k_ => some k_ ≠ (v1 : Value).ownBlock) v2 s2) := ⟨h1_⟩; have B4 : Aside0 (w_.heap[g4]? = some (.cells #[.int .i64 0, .int .i64 0, .slice none 0 0] 24 (0, 0))) := ⟨h2_⟩; have X8 : Aside0 (w_.heap[g8]? = some (.cells #[.int .i64 0, .int .i64 0, .slice none 0 0] 24 (0, 0))) := ⟨h3_⟩; have E8 : Aside0 (w.heap.size ≤ g8) := ⟨h4_⟩; have N48 : Aside0 (g4 ≠ g8) := ⟨h5_⟩; have N28 : Aside0 (g2 ≠ g8) := ⟨h6_⟩; have N38 : Aside0 (g3 ≠ g8) := ⟨h7_⟩; have X9 : Aside0 (w_.heap[g9]? = some (.cells #[.int .i64 0, .int .i64 0, .slice none 0 0] 24 (0, 0))) := ⟨h8_⟩; have E9 : Aside0 (w.heap.size ≤ g9) := ⟨h9_⟩; have N49 : Aside0 (g4 ≠ g9) := ⟨h10_⟩; have N29 : Aside0 (g2 ≠ g9) := ⟨h11_⟩; have N39 : Aside0 (g3 ≠ g9) := ⟨h12_⟩; have N89 : Aside0 (g8 ≠ g9) := ⟨h13_⟩; have HB : Aside0 (Below w.heap.size w w_) := ⟨h14_⟩; clear hS_ h0_ h1_ h2_ h3_ h4_ h5_ h6_ h7_ h8_ h9_ h10_ h11_ h12_ h13_ h14_; obtain ⟨A8, c8, e8⟩ := Kd.R_slice R1.out; subst e8; obtain ⟨A9, c9, e9⟩ := Kd.R_slice R2.out; subst e9; refine norm_ (a' := ?_) ?_ ?_; rotate_left
          · simp only [putAll, Act.put, zs1, zs2, zs3]; rfl
          refine one_ (i := 10) (N := none) #[true, true, true, true, true, true, true, true, true, true, true, false] rfl rfl (one_of HT_.out (by kernel_rfl)) (by decide) (fun K hK => ?_); have hs0 : w_.cell? ⟨g8, 0, none⟩ = some (.int .i64 0) := (blk_cell X8.out 0).trans rfl; have hf0 := blk_frozen X8.out 0; have hs1 : w_.cell? ⟨g8, 1, none⟩ = some (.int .i64 0) := (blk_cell X8.out 1).trans rfl; have hf1 := blk_frozen X8.out 1; have hs2 : w_.cell? ⟨g8, 2, none⟩ = some (.slice none 0 0) := (blk_cell X8.out 2).trans rfl; have hf2 := blk_frozen X8.out 2; refine skip_ (w1 := ?_) (by rfl) rfl ?_ ?_; rotate_left
          · go_simp
            rfl
          refine hK.out _ _ ⟨(cell_far (p := ⟨g8, _, none⟩) N28.out _).trans ((cell_far (p := ⟨g8, _, none⟩) N28.out _).trans ((cell_far (p := ⟨g8, _, none⟩) N28.out _).trans hHeld.1)), (cell_far (p := ⟨g8, _, none⟩) N28.out _).trans ((cell_far (p := ⟨g8, _, none⟩) N28.out _).trans ((cell_far (p := ⟨g8, _, none⟩) N28.out _).trans hHeld.2.1)), (cell_far (p := ⟨g8, _, none⟩) N28.out _).trans ((cell_far (p := ⟨g8, _, none⟩) N28.out _).trans ((cell_far (p := ⟨g8, _, none⟩) N28.out _).trans hHeld.2.2.1)), (cell_far (p := ⟨g8, _, none⟩) N38.out _).trans ((cell_far (p := ⟨g8, _, none⟩) N38.out _).trans ((cell_far (p := ⟨g8, _, none⟩) N38.out _).trans hHeld.2.2.2.1)), (cell_far (p := ⟨g8, _, none⟩) N38.out _).trans ((cell_far (p := ⟨g8, _, none⟩) N38.out _).trans ((cell_far (p := ⟨g8, _, none⟩) N38.out _).trans hHeld.2.2.2.2.1)), (cell_far (p := ⟨g8, _, none⟩) N38.out _).trans ((cell_far (p := ⟨g8, _, none⟩) N38.out _).trans ((cell_far (p := ⟨g8, _, none⟩) N38.out _).trans hHeld.2.2.2.2.2))⟩ (fun hHeld2 => ?_); clear hK K hs0 hf0 hs1 hf1 hs2 hf2; have n0_ := Aside0.mk (show (((w_.setCell ⟨g8, 0, none⟩ (.int .i64 lo)).setCell ⟨g8, 1, none⟩ (.int .i64 va)).setCell ⟨g8, 2, none⟩ (.slice A8 s1.length c8)).heap[g4]? = some (.cells #[.int .i64 0, .int .i64 0, .slice none 0 0] 24 (0, 0)) from blk_far (p := ⟨g8, 2, none⟩) (blk_far (p := ⟨g8, 1, none⟩) (blk_far (p := ⟨g8, 0, none⟩) B4.out N48.out _) N48.out _) N48.out _); have n1_ := Aside0.mk (show (((w_.setCell ⟨g8, 0, none⟩ (.int .i64 lo)).setCell ⟨g8, 1, none⟩ (.int .i64 va)).setCell ⟨g8, 2, none⟩ (.slice A8 s1.length c8)).heap[g8]? = some (.cells #[.int .i64 lo, .int .i64 va, .slice A8 s1.length c8] 24 (0, 0)) from blk_put (blk_put (blk_put X8.out 0 _ rfl) 1 _ rfl) 2 _ rfl); have n2_ := Aside0.mk (show (((w_.setCell ⟨g8, 0, none⟩ (.int .i64 lo)).setCell ⟨g8, 1, none⟩ (.int .i64 va)).setCell ⟨g8, 2, none⟩ (.slice A8 s1.length c8)).heap[g9]? = some (.cells #[.int .i64 0, .int .i64 0, .slice none 0 0] 24 (0, 0)) from blk_far (p := ⟨g8, 2, none⟩) (blk_far (p := ⟨g8, 1, none⟩) (blk_far (p := ⟨g8, 0, none⟩) X9.out N89.out.symm _) N89.out.symm _) N89.out.symm _); have n3_ := Aside0.mk (show Kd.R (Kd.int .i64) 3 (((w_.setCell ⟨g8, 0, none⟩ (.int .i64 lo)).setCell ⟨g8, 1, none⟩ (.int .i64 va)).setCell ⟨g8, 2, none⟩ (.slice A8 s1.length c8)) w.heap.size (fun k_ => some k_ ≠ (.slice A9 s2.length c9 : Value).ownBlock) (.slice A8 s1.length c8) s1 from Kd.R_mono (Kd.R_far (p := ⟨g8, 2, none⟩) (Kd.R_far (p := ⟨g8, 1, none⟩) (Kd.R_far (p := ⟨g8, 0, none⟩) (Kd.R_types R1.out X8.out (by decide)) (fun _ hk => hk.2) _) (fun _ hk => hk.2) _) (fun _ hk => hk.2) _) (fun _ hk => hk.1)); have n4_ := Aside0.mk (show Kd.R (Kd.int .i64) 3 (((w_.setCell ⟨g8, 0, none⟩ (.int .i64 lo)).setCell ⟨g8, 1, none⟩ (.int .i64 va)).setCell ⟨g8, 2, none⟩ (.slice A8 s1.length c8)) w.heap.size (fun k_ => some k_ ≠ (.slice A8 s1.length c8 : Value).ownBlock) (.slice A9 s2.length c9) s2 from Kd.R_mono (Kd.R_far (p := ⟨g8, 2, none⟩) (Kd.R_far (p := ⟨g8, 1, none⟩) (Kd.R_far (p := ⟨g8, 0, none⟩) (Kd.R_types R2.out X8.out (by decide)) (fun _ hk => hk.2) _) (fun _ hk => hk.2) _) (fun _ hk => hk.2) _) (fun _ hk => hk.1)); have n5_ := Aside0.mk (show Below w.heap.size w (((w_.setCell ⟨g8, 0, none⟩ (.int .i64 lo)).setCell ⟨g8, 1, none⟩ (.int .i64 va)).setCell ⟨g8, 2, none⟩ (.slice A8 s1.length c8)) from below_set (below_set (below_set HB.out E8.out) E8.out) E8.out); clear B4 X8 X9 R1 R2 HB hHeld; generalize (((w_.setCell ⟨g8, 0, none⟩ (.int .i64 lo)).setCell ⟨g8, 1, none⟩ (.int .i64 va)).setCell ⟨g8, 2, none⟩ (.slice A8 s1.length c8)) = wy at n0_ n1_ n2_ n3_ n4_ n5_ hHeld2 ⊢; have B4 := n0_; have X8 := n1_; have X9 := n2_; have R1 := n3_; have R2 := n4_; have HB := n5_; have hHeld := hHeld2; clear n0_ n1_ n2_ n3_ n4_ n5_ hHeld2; refine one_ (i := 11) (N := none) #[true, true, true, true, true, true, true, true, true, true, true, true] rfl rfl (one_of HT_.out (by kernel_rfl)) (by decide) (fun K hK => ?_); have hs0 : wy.cell? ⟨g9, 0, none⟩ = some (.int .i64 0) := (blk_cell X9.out 0).trans rfl
          have hf0 := blk_frozen X9.out 0; have hs1 : wy.cell? ⟨g9, 1, none⟩ = some (.int .i64 0) := (blk_cell X9.out 1).trans rfl; have hf1 := blk_frozen X9.out 1; have hs2 : wy.cell? ⟨g9, 2, none⟩ = some (.slice none 0 0) := (blk_cell X9.out 2).trans rfl; have hf2 := blk_frozen X9.out 2; refine skip_ (w1 := ?_) (by rfl) rfl ?_ ?_; rotate_left
          · go_simp
            rfl
          refine hK.out _ _ ⟨(cell_far (p := ⟨g9, _, none⟩) N29.out _).trans ((cell_far (p := ⟨g9, _, none⟩) N29.out _).trans ((cell_far (p := ⟨g9, _, none⟩) N29.out _).trans hHeld.1)), (cell_far (p := ⟨g9, _, none⟩) N29.out _).trans ((cell_far (p := ⟨g9, _, none⟩) N29.out _).trans ((cell_far (p := ⟨g9, _, none⟩) N29.out _).trans hHeld.2.1)), (cell_far (p := ⟨g9, _, none⟩) N29.out _).trans ((cell_far (p := ⟨g9, _, none⟩) N29.out _).trans ((cell_far (p := ⟨g9, _, none⟩) N29.out _).trans hHeld.2.2.1)), (cell_far (p := ⟨g9, _, none⟩) N39.out _).trans ((cell_far (p := ⟨g9, _, none⟩) N39.out _).trans ((cell_far (p := ⟨g9, _, none⟩) N39.out _).trans hHeld.2.2.2.1)), (cell_far (p := ⟨g9, _, none⟩) N39.out _).trans ((cell_far (p := ⟨g9, _, none⟩) N39.out _).trans ((cell_far (p := ⟨g9, _, none⟩) N39.out _).trans hHeld.2.2.2.2.1)), (cell_far (p := ⟨g9, _, none⟩) N39.out _).trans ((cell_far (p := ⟨g9, _, none⟩) N39.out _).trans ((cell_far (p := ⟨g9, _, none⟩) N39.out _).trans hHeld.2.2.2.2.2))⟩ (fun hHeld2 => ?_); clear hK K hs0 hf0 hs1 hf1 hs2 hf2; have n0_ := Aside0.mk (show (((wy.setCell ⟨g9, 0, none⟩ (.int .i64 lo)).setCell ⟨g9, 1, none⟩ (.int .i64 vb)).setCell ⟨g9, 2, none⟩ (.slice A9 s2.length c9)).heap[g4]? = some (.cells #[.int .i64 0, .int .i64 0, .slice none 0 0] 24 (0, 0)) from blk_far (p := ⟨g9, 2, none⟩) (blk_far (p := ⟨g9, 1, none⟩) (blk_far (p := ⟨g9, 0, none⟩) B4.out N49.out _) N49.out _) N49.out _); have n1_ := Aside0.mk (show (((wy.setCell ⟨g9, 0, none⟩ (.int .i64 lo)).setCell ⟨g9, 1, none⟩ (.int .i64 vb)).setCell ⟨g9, 2, none⟩ (.slice A9 s2.length c9)).heap[g9]? = some (.cells #[.int .i64 lo, .int .i64 vb, .slice A9 s2.length c9] 24 (0, 0)) from blk_put (blk_put (blk_put X9.out 0 _ rfl) 1 _ rfl) 2 _ rfl); have n2_ := Aside0.mk (show (((wy.setCell ⟨g9, 0, none⟩ (.int .i64 lo)).setCell ⟨g9, 1, none⟩ (.int .i64 vb)).setCell ⟨g9, 2, none⟩ (.slice A9 s2.length c9)).heap[g8]? = some (.cells #[.int .i64 lo, .int .i64 va, .slice A8 s1.length c8] 24 (0, 0)) from blk_far (p := ⟨g9, 2, none⟩) (blk_far (p := ⟨g9, 1, none⟩) (blk_far (p := ⟨g9, 0, none⟩) X8.out N89.out _) N89.out _) N89.out _); have n3_ := Aside0.mk (show Kd.R (Kd.int .i64) 3 (((wy.setCell ⟨g9, 0, none⟩ (.int .i64 lo)).setCell ⟨g9, 1, none⟩ (.int .i64 vb)).setCell ⟨g9, 2, none⟩ (.slice A9 s2.length c9)) w.heap.size (fun k_ => some k_ ≠ (.slice A9 s2.length c9 : Value).ownBlock) (.slice A8 s1.length c8) s1 from Kd.R_mono (Kd.R_far (p := ⟨g9, 2, none⟩) (Kd.R_far (p := ⟨g9, 1, none⟩) (Kd.R_far (p := ⟨g9, 0, none⟩) (Kd.R_types R1.out X9.out (by decide)) (fun _ hk => hk.2) _) (fun _ hk => hk.2) _) (fun _ hk => hk.2) _) (fun _ hk => hk.1)); have n4_ := Aside0.mk (show Kd.R (Kd.int .i64) 3 (((wy.setCell ⟨g9, 0, none⟩ (.int .i64 lo)).setCell ⟨g9, 1, none⟩ (.int .i64 vb)).setCell ⟨g9, 2, none⟩ (.slice A9 s2.length c9)) w.heap.size (fun k_ => some k_ ≠ (.slice A8 s1.length c8 : Value).ownBlock) (.slice A9 s2.length c9) s2 from Kd.R_mono (Kd.R_far (p := ⟨g9, 2, none⟩) (Kd.R_far (p := ⟨g9, 1, none⟩) (Kd.R_far (p := ⟨g9, 0, none⟩) (Kd.R_types R2.out X9.out (by decide)) (fun _ hk => hk.2) _) (fun _ hk => hk.2) _) (fun _ hk => hk.2) _) (fun _ hk => hk.1)); have n5_ := Aside0.mk (show Below w.heap.size w (((wy.setCell ⟨g9, 0, none⟩ (.int .i64 lo)).setCell ⟨g9, 1, none⟩ (.int .i64 vb)).setCell ⟨g9, 2, none⟩ (.slice A9 s2.length c9)) from below_set (below_set (below_set HB.out E9.out) E9.out) E9.out); clear B4 X8 X9 R1 R2 HB hHeld; generalize (((wy.setCell ⟨g9, 0, none⟩ (.int .i64 lo)).setCell ⟨g9, 1, none⟩ (.int .i64 vb)).setCell ⟨g9, 2, none⟩ (.slice A9 s2.length c9)) = wz at n0_ n1_ n2_ n3_ n4_ n5_ hHeld2 ⊢; have B4 := n0_; have X9 := n1_; have X8 := n2_; have R1 := n3_; have R2 := n4_; have HB := n5_; have hHeld := hHeld2; clear n0_ n1_ n2_ n3_ n4_ n5_ hHeld2; refine done_ (done_of HT_.out (by kernel_rfl)) ?_; clear HT_ HW_ hHeld; have hn89 := N89.out; have hn98 := N89.out.symm; have hs1 : wz.cell? ⟨g8, 1, none⟩ = some (.int .i64 va) := (blk_cell X8.out 1).trans rfl; have hf1 := blk_frozen X8.out 1
          have ht1 : wz.cell? ⟨g9, 1, none⟩ = some (.int .i64 vb) := (blk_cell X9.out 1).trans rfl; have ht2 : wz.cell? ⟨g9, 2, none⟩ = some (.slice A9 s2.length c9) := (blk_cell X9.out 2).trans rfl; have ew : wrap64 (va + vb) = va + vb := by have h1 := HV1.out; have h2 := HV2.out; unfold wrap64; omega
          go_wp2
          (try simp only [i64_w]); rw [ew]; have n0_ := Aside0.mk (show (wz.setCell ⟨g8, 1, none⟩ (.int .i64 (va + vb))).heap[g4]? = some (.cells #[.int .i64 0, .int .i64 0, .slice none 0 0] 24 (0, 0)) from blk_far (p := ⟨g8, 1, none⟩) B4.out N48.out _); have n1_ := Aside0.mk (show (wz.setCell ⟨g8, 1, none⟩ (.int .i64 (va + vb))).heap[g8]? = some (.cells #[.int .i64 lo, .int .i64 (va + vb), .slice A8 s1.length c8] 24 (0, 0)) from blk_put X8.out 1 _ rfl); have n3_ := Aside0.mk (show Kd.R (Kd.int .i64) 3 (wz.setCell ⟨g8, 1, none⟩ (.int .i64 (va + vb))) w.heap.size (fun k_ => some k_ ≠ (.slice A9 s2.length c9 : Value).ownBlock) (.slice A8 s1.length c8) s1 from Kd.R_mono (Kd.R_far (p := ⟨g8, 1, none⟩) (Kd.R_types R1.out X8.out (by decide)) (fun _ hk => hk.2) _) (fun _ hk => hk.1)); have n4_ := Aside0.mk (show Kd.R (Kd.int .i64) 3 (wz.setCell ⟨g8, 1, none⟩ (.int .i64 (va + vb))) w.heap.size (fun k_ => some k_ ≠ (.slice A8 s1.length c8 : Value).ownBlock) (.slice A9 s2.length c9) s2 from Kd.R_mono (Kd.R_far (p := ⟨g8, 1, none⟩) (Kd.R_types R2.out X8.out (by decide)) (fun _ hk => hk.2) _) (fun _ hk => hk.1)); have n5_ := Aside0.mk (show Below w.heap.size w (wz.setCell ⟨g8, 1, none⟩ (.int .i64 (va + vb))) from below_set HB.out E8.out); clear B4 X8 X9 R1 R2 HB hs1 hf1 ht1 ht2 ew hn89 hn98; generalize wz.setCell ⟨g8, 1, none⟩ (.int .i64 (va + vb)) = w7 at n0_ n1_ n3_ n4_ n5_ ⊢; go_loopg [52] s1.length (fun gg v52 wr => ∃ (m : Nat) (x : List Int), v52 = .int .i64 m ∧ m ≤ s1.length ∧ s1.length - m ≤ gg ∧ Aside0 (x.length = s1.length ∧ (∀ j, j < m → x[j]? = some (rd s1 (j : Int) + rd s2 (j : Int))) ∧ (∀ j, m ≤ j → x[j]? = s1[j]?)) ∧ Aside0 (Kd.R (Kd.int .i64) 3 wr w.heap.size (fun k_ => some k_ ≠ (.slice A9 s2.length c9 : Value).ownBlock) (.slice A8 s1.length c8) x) ∧ Aside0 (Kd.R (Kd.int .i64) 3 wr w.heap.size (fun k_ => some k_ ≠ (.slice A8 s1.length c8 : Value).ownBlock) (.slice A9 s2.length c9) s2) ∧ Aside0 (wr.heap[g4]? = some (.cells #[.int .i64 0, .int .i64 0, .slice none 0 0] 24 (0, 0))) ∧ Aside0 (wr.heap[g8]? = some (.cells #[.int .i64 lo, .int .i64 (va + vb), .slice A8 s1.length c8] 24 (0, 0))) ∧ Aside0 (Below w.heap.size w wr))
          case atStart => exact ⟨0, s1, rfl, Nat.zero_le _, by omega, ⟨rfl, fun j hj => by omega, fun j _ => rfl⟩, n3_, n4_, n0_, n1_, n5_⟩
          case round =>
            clear n0_ n1_ n3_ n4_ n5_; obtain ⟨m, x, rfl, hm, hg, PX, R1, R2, B4, X8, HB⟩ := hrel; have hm2 : s1.length ≤ 64 := HLEN.out; have h12 := HS12.out
            by_cases hlt : m < s1.length
            · have hltz : (m : Int) < (s2.length : Int) := by omega
              have h0m : (0 : Int) ≤ (m : Int) := by omega
              have hltx : (m : Int) < (s1.length : Int) := by omega
              obtain ⟨go, co, eo, gb, gl, cl, HG⟩ := Kd.R_form R1.out (by rw [PX.out.1]; omega); (first | cases eo | (injection eo with ea_ en_ ec_; (first | subst ea_ | (injection ea_ with ea_; subst ea_)); subst ec_; clear en_)); obtain ⟨ad2, e2, hy0⟩ := Kd.at_int (Kd.R_reads' R2.out).2.2 (m : Int) h0m hltz
              cases e2
              obtain ⟨hcx, hfx⟩ := Kd.R_celln 0 R1.out (m : Int) h0m hltx; rw [Int.toNat_natCast] at hcx hfx; have hrx : rdOf 0 x (m : Int) = rd s1 (m : Int) := by
                have h := PX.out.2.2 m (Nat.le_refl _); unfold rdOf rd
                rw [List.getD_eq_getElem?_getD, List.getD_eq_getElem?_getD, Int.toNat_natCast, h]
              rw [hrx] at hcx; have ew : wrap64 (rd s1 (m : Int) + rd s2 (m : Int)) = rd s1 (m : Int) + rd s2 (m : Int) := by
                have h1 := HB1_.out (rd s1 (m : Int)) (by rw [rd_nat _ _ hlt]; exact List.getElem_mem hlt); have h2 := HB2_.out (rd s2 (m : Int)) (by rw [rd_nat _ _ (by omega)]; exact List.getElem_mem _); clear hcx; unfold wrap64
                omega
              have HEW := Aside0.mk ew; clear ew hrx; have HPUT := Kd.R_putg R1.out (m : Int) (wrap64 (rd s1 (m : Int) + rd s2 (m : Int))); rw [Int.toNat_natCast] at HPUT; have hx2 : wr.cell? ⟨g8, 2, none⟩ = some (.slice (some ⟨go, 0, none⟩) s1.length c8) := (blk_cell X8.out 2).trans rfl; have hy0' : wr.cell? (ad2.add m) = some (.int .i64 (rd s2 (m : Int))) := by rw [Int.toNat_natCast] at hy0; exact hy0
              clear hy0; go_wp2
              go_roundg (s1.length - (m + 1))
              case measure => omega
              case rel => exact ⟨m + 1, x.set m (wrap64 (rd s1 (m : Int) + rd s2 (m : Int))), by go_num, by omega, by omega, ⟨by rw [List.length_set]; exact PX.out.1, fun j hj => by rw [List.getElem?_set]; by_cases e : m = j; (subst e; rw [if_pos rfl, if_pos (by rw [PX.out.1]; omega), HEW.out]); (rw [if_neg e]; exact PX.out.2.1 j (by omega)), fun j hj => by rw [List.getElem?_set_ne (by omega)]; exact PX.out.2.2 j (by omega)⟩, ⟨HPUT.1⟩, ⟨Kd.R_grown R2.out HPUT.2 (fun k hk => hk)⟩, ⟨blk_grown B4.out HPUT.2 (Kd.R_ne R1.out B4.out (by decide))⟩, ⟨blk_grown X8.out HPUT.2 (Kd.R_ne R1.out X8.out (by decide))⟩, ⟨HB.out.grown HPUT.2 HB.out.size (fun k hk => by cases hk; exact gb)⟩⟩
            · obtain rfl : m = s1.length := by omega
              have hx : x = List.zipWith (fun x y => x + y) s1 s2 := List.ext_getElem? fun j => by
                by_cases hj : j < s1.length
                · rw [PX.out.2.1 j hj, List.getElem?_zipWith, List.getElem?_eq_getElem hj, List.getElem?_eq_getElem (show j < s2.length by omega), rd_nat _ _ hj, rd_nat _ _ (show j < s2.length by omega)]
                · rw [List.getElem?_eq_none (by rw [PX.out.1]; omega), List.getElem?_eq_none (by rw [List.length_zipWith]; omega)]
              have hltz : ¬(s1.length : Int) < (s2.length : Int) := by omega
              have HM := Aside0.mk (show curve_made.f lo (va + vb) x = some (r1, r2, r3, r4) by
                have h := HJ.out; rw [← hx] at h; have e := made_f ⟨lo, va + vb, x⟩; rw [h] at e; exact e)
              have HLT := Aside0.mk (Array.getElem?_eq_some_iff.1 B4.out).1; have hx0 : wr.cell? ⟨g8, 0, none⟩ = some (.int .i64 lo) := (blk_cell X8.out 0).trans rfl; have hx1 : wr.cell? ⟨g8, 1, none⟩ = some (.int .i64 (va + vb)) := (blk_cell X8.out 1).trans rfl; have hx2 : wr.cell? ⟨g8, 2, none⟩ = some (.slice A8 s1.length c8) := (blk_cell X8.out 2).trans rfl; clear hx h12; go_upto_region 13 with (fail)
              have hmade := (curve_made.calls lo (va + vb) (fun k_ => (some k_ ≠ (.slice A9 s2.length c9 : Value).ownBlock) ∧ k_ ≠ g4) _ x r1 r2 r3 r4 w wr HB.out (Kd.R_types R1.out B4.out (by decide)) HM.out); have HMADE := Aside0.mk hmade; clear hmade; go_wp2_with (go_at_call 51; (with_reducible refine HMADE.out.mono ?_); rintro e w8 ⟨v8, rfl, ho8, hb8, hk8⟩; obtain ⟨A10, c10, e10⟩ := Kd.R_slice ho8; subst e10; have BK8 := Aside0.mk ((hk8.2 g4 HLT.out (fun h => h.2 rfl)).trans B4.out); have HB8 := Aside0.mk hb8; have HR8 := Aside0.mk (Kd.R_mono (ok' := fun k_ => k_ ≠ g4) ho8 (fun k hk => by rcases hk with hk | hk; exact hk.2; have := HLT.out; omega)); clear ho8 hb8 hk8 hx0 hx1 hx2; have hz0 : w8.cell? ⟨g4, 0, none⟩ = some (.int .i64 0) := (blk_cell BK8.out 0).trans rfl; have hf0 := blk_frozen BK8.out 0; have hz1 : w8.cell? ⟨g4, 1, none⟩ = some (.int .i64 0) := (blk_cell BK8.out 1).trans rfl; have hf1 := blk_frozen BK8.out 1; have hz2 : w8.cell? ⟨g4, 2, none⟩ = some (.slice none 0 0) := (blk_cell BK8.out 2).trans rfl; have hf2 := blk_frozen BK8.out 2)
              obtain ⟨e1, e2, e3⟩ := store_curve (x := r1) (y := r2) HB8.out GE.out BK8.out HR8.out; refine bodyPost_ret (results_ct rfl _ _ g4 24 _ (0, 0) _ rfl e1 Try.underlying24 rfl (by kernel_rfl)) rfl ?_; exact ⟨_, rfl, e2, e3⟩
end Go.Proofs.Ytingjpcgehgiiaa.Pr
end
