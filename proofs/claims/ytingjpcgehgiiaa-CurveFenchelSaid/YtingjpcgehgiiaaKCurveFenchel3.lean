/- What the proof of the law needs, trimmed and merged by wip/pack.py out of the texts YtingjpcgehgiiaaCvl, YtingjpcgehgiiaaExtSplit, YtingjpcgehgiiaaBes. No condition. -/
import Derived.Test.YtingjpcgehgiiaaKCurveFenchel0
import Derived.Test.YtingjpcgehgiiaaKCurveFenchel1
import Derived.Test.YtingjpcgehgiiaaKCurveFenchel2
section
namespace Go.Proofs.Ytingjpcgehgiiaa.Pr
open Go.RowKit Go.Proofs.YtingjpcgehgiiaaW.PrintWords Go.Proofs.YtingjpcgehgiiaaW.PrintLast Go.Proofs.YtingjpcgehgiiaaW.PrintMore
set_option linter.unusedVariables false
set_option linter.unusedSimpArgs false
theorem mx_eq (a b : Int) : mx a b = max a b := by unfold mx; omega
theorem mn_eq (a b : Int) : mn a b = min a b := by unfold mn; omega
theorem valid_f (c : S24) : curve_Valid.f c.f0 c.f1 c.f2 = some (decide (Vc c)) := by
  unfold curve_Valid.f
  by_cases h : Vc c
  · rw [decide_eq_true h]
    exact congrArg some h
  · rw [decide_eq_false h]
    exact congrArg some (Bool.eq_false_iff.2 h)
theorem to_f {c : S24} (h : Vc c) : curve_to.f c.f0 c.f1 c.f2 = some (c.f0 + (c.f2.length : Int)) := by
  obtain ⟨h1, h2, h3, h4, h5, _, h7⟩ := vc_parts h
  unfold curve_to.f
  have e : wrap64 (c.f0 + (c.f2.length : Int)) = c.f0 + (c.f2.length : Int) := by unfold wrap64; omega
  rw [e]
theorem has_f {c : S24} (h : Vc c) (x : Int) : curve_has.f c.f0 c.f1 c.f2 x = some (decide (inC c x)) := by
  unfold curve_has.f
  by_cases h1 : x ≥ c.f0
  · rw [if_pos h1, to_f h, Option.bind_some]
    congr 1
    apply decide_eq_decide.2
    constructor
    · exact fun h => ⟨h1, h⟩
    · exact fun h => h.2
  · rw [if_neg h1, decide_eq_false (fun h : inC c x => h1 h.1)]
def atR (c : S24) (x : Int) : Int × Bool := if Vc c ∧ inC c x then (valC c x, true) else (0, false)
theorem at_law (c : S24) (x : Int) : kimberlitelaw03_at.f c.f0 c.f1 c.f2 x = some (atR c x) := by
  unfold kimberlitelaw03_at.f curve_At.f atR
  rw [valid_f c, Option.bind_some]
  by_cases h : Vc c
  · rw [if_pos (decide_eq_true h), has_f h, Option.bind_some]
    by_cases hx : inC c x
    · rw [if_pos (decide_eq_true hx), at_val h hx, if_pos ⟨h, hx⟩]
      rfl
    · rw [if_neg (by rw [decide_eq_true_eq]; exact hx), if_neg (fun e => hx e.2)]
      rfl
  · rw [if_neg (by rw [decide_eq_true_eq]; exact h), if_neg (fun e => h e.1)]
    rfl
theorem atR_in {c : S24} {x : Int} (h : Vc c) (hx : inC c x) : atR c x = (valC c x, true) := if_pos ⟨h, hx⟩
theorem atR_out {c : S24} {x : Int} (hx : ¬inC c x) : atR c x = (0, false) := if_neg fun e => hx e.2
/-- The values, written out. -/
def outL (c : S24) (n : Nat) : List Int := (List.range n).map fun i : Nat => valC c (c.f0 + (i : Int))
theorem outL_len (c : S24) (n : Nat) : (outL c n).length = n := by unfold outL; rw [List.length_map, List.length_range]
theorem outL_rd (c : S24) (n i : Nat) (h : i < n) : rd (outL c n) (i : Int) = valC c (c.f0 + (i : Int)) := by
  rw [rd_nat _ _ (by rw [outL_len]; exact h)]
  unfold outL
  rw [List.getElem_map, List.getElem_range]
theorem outL_succ (c : S24) (n : Nat) : outL c (n + 1) = outL c n ++ [valC c (c.f0 + (n : Int))] := by
  unfold outL
  rw [List.range_succ, List.map_append]
  rfl
theorem tot_take_succ (l : List Int) (i : Nat) (h : i < l.length) : tot (l.take (i + 1)) = tot (l.take i) + rd l (i : Int) := by
  rw [List.take_add_one, List.getElem?_eq_getElem h, tot_append, rd_nat l i h]
  simp [tot]
theorem val_succ (c : S24) (i : Nat) (h : i < c.f2.length) : valC c (c.f0 + ((i + 1 : Nat) : Int)) = valC c (c.f0 + (i : Int)) + rd c.f2 (i : Int) := by
  unfold valC
  have e1 : (c.f0 + ((i + 1 : Nat) : Int) - c.f0).toNat = i + 1 := by omega
  have e2 : (c.f0 + (i : Int) - c.f0).toNat = i := by omega
  rw [e1, e2, tot_take_succ _ _ h]
  omega
theorem val_first (c : S24) : valC c c.f0 = c.f1 := by
  unfold valC
  have e : (c.f0 - c.f0).toNat = 0 := by omega
  rw [e]
  simp [tot]
theorem out_loop {c : S24} (h : Vc c) : ∀ n i : Nat, i + n = c.f2.length → Ev (fun k => kimberliteref03_Out.l0 k (i : Int) c.f0 c.f1 c.f2 c.f0 (outL c (i + 1))) (c.f0, outL c (c.f2.length + 1))
  | 0, i, hi => by
    have e : i = c.f2.length := by omega
    rw [← e]
    refine Ev.step (f := fun _ => some (c.f0, outL c (i + 1))) (fun k => ?_) (Ev.now _)
    simp only [kimberliteref03_Out.l0]
    rw [if_neg (by omega)]
  | n + 1, i, hi => by
    obtain ⟨h1, h2, h3, h4, h5, _, h7⟩ := vc_parts h
    have ih := out_loop h n (i + 1) (by omega)
    have ew : wrap64 ((i : Int) + 1) = ((i + 1 : Nat) : Int) := by unfold wrap64; omega
    have b := val_bound h (c.f0 + ((i + 1 : Nat) : Int))
    have hv := val_succ c i (by omega)
    have ev : wrap64 (rd (outL c (i + 1)) (i : Int) + rd c.f2 (i : Int)) = valC c (c.f0 + ((i + 1 : Nat) : Int)) := by
      rw [outL_rd c (i + 1) i (by omega), ← hv]
      unfold wrap64
      omega
    refine Ev.step (fun k => ?_) ih
    simp only [kimberliteref03_Out.l0]
    have hl := outL_len c (i + 1)
    rw [if_pos (by omega), if_pos (by omega), if_pos (by omega), if_pos (by omega), ew, ev, outL_succ c (i + 1)]
theorem out_ev {c : S24} (h : Vc c) : Ev (fun k => kimberliteref03_Out.f k c.f0 c.f1 c.f2) (c.f0, outL c (c.f2.length + 1)) := by
  have h1 := out_loop h c.f2.length 0 (by omega)
  have e : outL c (0 + 1) = [c.f1] := by
    unfold outL
    have : valC c (c.f0 + ((0 : Nat) : Int)) = c.f1 := by rw [show c.f0 + ((0 : Nat) : Int) = c.f0 by omega, val_first]
    simpa [List.range_succ] using this
  rw [e] at h1
  exact h1
theorem row_value {c : S24} (h : Vc c) {x : Int} (hx : inC c x) : kimberliteref03_Row_Value.f c.f0 (outL c (c.f2.length + 1)) x = some (valC c x) := by
  obtain ⟨h1, h2, h3, h4, h5, _, h7⟩ := vc_parts h
  obtain ⟨x1, x2⟩ := hx
  obtain ⟨k, hk⟩ := Int.eq_ofNat_of_zero_le (show 0 ≤ x - c.f0 by omega)
  have e : wrap64 (x - c.f0) = (k : Int) := by unfold wrap64; omega
  unfold kimberliteref03_Row_Value.f
  have hl := outL_len c (c.f2.length + 1)
  rw [e, if_pos (by omega), if_pos (by omega), outL_rd _ _ _ (by omega), ← hk]
  congr 2
  omega
theorem row_to {c : S24} (h : Vc c) : kimberliteref03_Row_To.f c.f0 (outL c (c.f2.length + 1)) = some (c.f0 + (c.f2.length : Int)) := by
  obtain ⟨h1, h2, h3, h4, h5, _, h7⟩ := vc_parts h
  unfold kimberliteref03_Row_To.f
  rw [outL_len]
  congr 1
  unfold wrap64
  omega
theorem mul_bound {p x P X : Int} (hp : -P ≤ p ∧ p ≤ P) (hx : -X ≤ x ∧ x ≤ X) : -(P * X) ≤ p * x ∧ p * x ≤ P * X := by
  have hP : 0 ≤ P := by omega
  have hX : 0 ≤ X := by omega
  have h1 : (p * x).natAbs ≤ (P * X).natAbs := by
    rw [Int.natAbs_mul, Int.natAbs_mul]
    exact Nat.mul_le_mul (by omega) (by omega)
  have h2 : 0 ≤ P * X := Int.mul_nonneg hP hX
  omega
theorem px_bound {p x : Int} (hp : -1073741824 ≤ p ∧ p ≤ 1073741824) (hx : -2097152 ≤ x ∧ x ≤ 2097152) : -2251799813685248 ≤ p * x ∧ p * x ≤ 2251799813685248 := mul_bound (P := 1073741824) (X := 2097152) hp hx
theorem in_bound {c : S24} (h : Vc c) {x : Int} (hx : inC c x) : -2097152 ≤ x ∧ x ≤ 2097152 := by
  obtain ⟨h1, h2, h3, h4, h5, _, h7⟩ := vc_parts h
  obtain ⟨x1, x2⟩ := hx
  omega
theorem term_w {c : S24} (h : Vc c) {x p : Int} (hx : inC c x) (hp : -1073741824 ≤ p ∧ p ≤ 1073741824) : wrap64 (wrap64 (p * x) - valC c x) = p * x - valC c x := by
  have h1 := px_bound hp (in_bound h hx)
  have h2 := val_bound h x
  unfold wrap64
  omega
theorem gC_bound {c : S24} (h : Vc c) {p : Int} (hp : -1073741824 ≤ p ∧ p ≤ 1073741824) : -2252899392421888 - 1 ≤ gC c p ∧ gC c p ≤ 2252899392421888 + 1 := by
  obtain ⟨x, hx, e⟩ := gC_at h p
  have h1 := px_bound hp (in_bound h hx)
  have h2 := val_bound h x
  omega
theorem greatest_loop {c : S24} (h : Vc c) {p : Int} (hp : -1073741824 ≤ p ∧ p ≤ 1073741824) : ∀ (n : Nat) (x b : Int), c.f0 ≤ x → x + (n : Int) = c.f0 + (c.f2.length : Int) + 1 → b ≤ gC c p → (b = gC c p ∨ ∃ y, x ≤ y ∧ inC c y ∧ p * y - valC c y = gC c p) →
    Ev (fun k => kimberliteref03_Greatest.l0 k p b x c.f0 (outL c (c.f2.length + 1))) (gC c p)
  | 0, x, b, hx, hn, hb, hor => by
    have e : b = gC c p := by
      rcases hor with e | ⟨y, y1, ⟨_, y2⟩, _⟩
      · exact e
      · omega
    refine Ev.step (f := fun _ => some b) (fun k => ?_) (by rw [e]; exact Ev.now _)
    simp only [kimberliteref03_Greatest.l0]
    rw [row_to h, Option.bind_some, if_neg (by omega)]
  | n + 1, x, b, hx, hn, hb, hor => by
    have hin : inC c x := ⟨hx, by omega⟩
    obtain ⟨h1, h2, h3, h4, h5, _, h7⟩ := vc_parts h
    have ew : wrap64 (x + 1) = x + 1 := by unfold wrap64; omega
    have et := term_w h hin hp
    have hy := young p hin
    refine Ev.step (fun k => ?_) (greatest_loop h hp n (x + 1) (mx b (p * x - valC c x)) (by omega) (by omega) (by rw [mx_eq]; omega) ?_)
    · simp only [kimberliteref03_Greatest.l0]
      rw [row_to h, Option.bind_some, if_pos (by omega), row_value h hin, Option.bind_some, et, ew]
    · rw [mx_eq]
      rcases hor with e | ⟨y, y1, y2, y3⟩
      · left; omega
      · by_cases hxy : y = x
        · subst hxy; left; omega
        · exact .inr ⟨y, by omega, y2, y3⟩
theorem greatest_ev {c : S24} (h : Vc c) {p : Int} (hp : -1073741824 ≤ p ∧ p ≤ 1073741824) : Ev (fun k => kimberlitelaw03_greatest.f k c.f0 c.f1 c.f2 p) (gC c p) := by
  unfold kimberlitelaw03_greatest.f
  have hin : inC c c.f0 := ⟨by omega, by omega⟩
  have e1 : rd (outL c (c.f2.length + 1)) 0 = valC c c.f0 := by
    have := outL_rd c (c.f2.length + 1) 0 (by omega)
    rw [show c.f0 + ((0 : Nat) : Int) = c.f0 by omega] at this
    exact this
  refine Ev.bind (out_ev h) (Ev.bind ?_ (Ev.now _))
  refine Ev.congr (fun k => ?_) (greatest_loop h hp (c.f2.length + 1) c.f0 (p * c.f0 - valC c c.f0) (by omega) (by omega) (young p hin) ?_)
  · unfold kimberliteref03_Greatest.f
    rw [outL_len, if_pos (by omega), e1, term_w h hin hp]
  · obtain ⟨y, y1, y2⟩ := gC_at h p
    exact .inr ⟨y, y1.1, y1, y2⟩
end Go.Proofs.Ytingjpcgehgiiaa.Pr
end
section
namespace Go.Proofs.Ytingjpcgehgiiaa.Pr
open Go.RowKit Go.Shelf Go.Proofs.YtingjpcgehgiiaaW.PrintWords Go.Proofs.YtingjpcgehgiiaaW.PrintLast Go.Proofs.YtingjpcgehgiiaaW.PrintMore
set_option linter.unusedVariables false
set_option linter.unusedSimpArgs false
theorem info67 : (Try.prog.info? 67).map (fun i => (i.zero, i.size, i.bytes)) = some (some (.pointer none), 1, 8) := by kernel_rfl
def loS (l : List S24) : Int := (l.map (fun c => c.f0)).sum
def hiS (l : List S24) : Int := (l.map (fun c => c.f0 + (c.f2.length : Int))).sum
def mkSh (l : List S24) : Shr := l.map (fun c => (c, c.f0))
def AllV (l : List S24) : Prop := ∀ c ∈ l, validC c.f0 c.f1 c.f2 = true
theorem sums_bound : ∀ (l : List S24), AllV l → -(1048576 * (l.length : Int)) ≤ loS l ∧ loS l ≤ 1048576 * (l.length : Int) ∧ loS l ≤ hiS l ∧ hiS l ≤ 1048640 * (l.length : Int)
  | [], _ => by simp [loS, hiS]
  | c :: t, h => by
    have ih := sums_bound t (fun c hc => h c (List.mem_cons_of_mem _ hc))
    obtain ⟨v1, v2, _, _, v5, _⟩ := validC_parts (h c List.mem_cons_self)
    simp only [loS, hiS, List.map_cons, List.sum_cons, List.length_cons] at ih ⊢
    push_cast
    omega
theorem take_snoc (l : List S24) (k : Nat) (h : k < l.length) : l.take (k + 1) = l.take k ++ [l.getD k z24] := by
  rw [List.take_add_one, List.getElem?_eq_getElem h, List.getD_eq_getElem?_getD, List.getElem?_eq_getElem h]
  rfl
theorem loS_succ (l : List S24) (k : Nat) (h : k < l.length) : loS (l.take (k + 1)) = loS (l.take k) + (l.getD k z24).f0 ∧ hiS (l.take (k + 1)) = hiS (l.take k) + ((l.getD k z24).f0 + ((l.getD k z24).f2.length : Int)) := by
  rw [take_snoc l k h]
  simp only [loS, hiS, List.map_append, List.sum_append, List.map_cons, List.map_nil, List.sum_cons, List.sum_nil]
  omega
theorem mkSh_succ (l : List S24) (k : Nat) (h : k < l.length) : mkSh (l.take (k + 1)) = mkSh (l.take k) ++ [((l.getD k z24), (l.getD k z24).f0)] := by
  rw [take_snoc l k h]
  simp only [mkSh, List.map_append, List.map_cons, List.map_nil]
theorem allV_take {l : List S24} (h : AllV l) (k : Nat) : AllV (l.take k) := fun c hc => h c (List.mem_of_mem_take hc)
/-- A share's block; its curve's slopes are read in the world where the call began. -/
def ShareIn (w W : World) (b : Nat) (p : S24 × Int) : Prop := ∃ A cap, W.heap[b]? = some (.cells #[.int .i64 p.1.f0, .int .i64 p.1.f1, .slice A p.1.f2.length cap, .int .i64 p.2] 69 (0, 0)) ∧ p.1.f2.length ≤ cap ∧ Kd.C (Kd.int .i64) w A p.1.f2.length p.1.f2
/-- The shares of a call's own. -/
def Own (w W : World) (v : Value) (sh : Shr) : Prop := ∃ bs : List Nat, Kd.R kP 67 W w.heap.size (fun _ => True) v bs ∧ bs.length = sh.length ∧ (∀ i, i < sh.length → ShareIn w W (bs.getD i 0) (sh.getD i zS)) ∧ (∀ b ∈ bs, w.heap.size ≤ b) ∧ bs.Nodup
theorem Own.nil (w W : World) : Own w W (.slice none 0 0) [] := ⟨[], Kd.R_nil _ _ _ _ _, rfl, fun i hi => by simp at hi, fun b hb => by simp at hb, List.nodup_nil⟩
theorem ShareIn.below {w W W' : World} {b : Nat} {p : S24 × Int} (h : ShareIn w W b p) (hb : Below W.heap.size W W') : ShareIn w W' b p := by
  obtain ⟨A, cap, h1, h2, h3⟩ := h
  exact ⟨A, cap, blk_below h1 hb, h2, h3⟩
theorem Own.below {w W W' : World} {v : Value} {sh : Shr} (h : Own w W v sh) (hb : Below W.heap.size W W') : Own w W' v sh := by
  obtain ⟨bs, h1, h2, h3, h4, h5⟩ := h
  exact ⟨bs, Kd.R_below h1 hb, h2, fun i hi => (h3 i hi).below hb, h4, h5⟩
/-- One share more. -/
theorem Own.snoc {w W W' : World} {v v' : Value} {bs : List Nat} {sh : Shr} {p : S24 × Int} {nb : Nat} {A : Option Addr} {cap : Nat}
    (ho : Kd.R kP 67 W w.heap.size (fun _ => True) v bs) (hl : bs.length = sh.length) (hs : ∀ i, i < sh.length → ShareIn w W (bs.getD i 0) (sh.getD i zS)) (hb : ∀ b ∈ bs, w.heap.size ≤ b) (hn : bs.Nodup)
    (hnb : W.heap[nb]? = some (.cells #[.int .i64 p.1.f0, .int .i64 p.1.f1, .slice A p.1.f2.length cap, .int .i64 p.2] 69 (0, 0))) (hcap : p.1.f2.length ≤ cap) (hC : Kd.C (Kd.int .i64) w A p.1.f2.length p.1.f2) (hw : w.heap.size ≤ nb) (hnew : ∀ b ∈ bs, b ≠ nb)
    (hown : W'.ownsRow w.heap.size 67 1 v' (bs.length + 1) (encs (fun b => .pointer (some ⟨b, 0, none⟩)) bs ++ [.pointer (some ⟨nb, 0, none⟩)])) (hg : W.grownBy W' v.ownBlock) : Own w W' v' (sh ++ [p]) := by
  have keep : ∀ (k : Nat) (cs : Array Value), W.heap[k]? = some (Obj.cells cs 69 (0, 0)) → W'.heap[k]? = some (Obj.cells cs 69 (0, 0)) := fun k cs hk => by
    refine (hg.block k (Array.getElem?_eq_some_iff.1 hk).1 (fun e => ?_)).trans hk
    obtain ⟨cells, hc⟩ := own_typed ho.2.choose_spec.1 k e.symm
    rw [hk] at hc
    cases hc
  refine ⟨bs ++ [nb], Kd.R_of_own (by simpa [encs] using hown) (fun _ _ => trivial), by simp [hl], fun i hi => ?_, fun b hb' => ?_, ?_⟩
  · by_cases h : i < sh.length
    · obtain ⟨A', cap', h1, h2, h3⟩ := hs i h
      have e1 : (bs ++ [nb]).getD i 0 = bs.getD i 0 := by rw [List.getD_eq_getElem?_getD, List.getD_eq_getElem?_getD, List.getElem?_append_left (by omega)]
      have e2 : (sh ++ [p]).getD i zS = sh.getD i zS := by rw [List.getD_eq_getElem?_getD, List.getD_eq_getElem?_getD, List.getElem?_append_left (by omega)]
      rw [e1, e2]
      exact ⟨A', cap', keep _ _ h1, h2, h3⟩
    · obtain rfl : i = sh.length := by simp at hi; omega
      have e1 : (bs ++ [nb]).getD sh.length 0 = nb := by rw [List.getD_eq_getElem?_getD, ← hl]; simp
      have e2 : (sh ++ [p]).getD sh.length zS = p := by rw [List.getD_eq_getElem?_getD]; simp
      rw [e1, e2]
      exact ⟨A, cap, keep _ _ hnb, hcap, hC⟩
  · rcases List.mem_append.1 hb' with hb' | hb'
    · exact hb b hb'
    · rw [List.mem_singleton.1 hb']; exact hw
  · rw [List.nodup_append]
    exact ⟨hn, by simp, fun a ha b hb' => by rw [List.mem_singleton.1 hb']; exact hnew a ha⟩
theorem nodup_getD {bs : List Nat} (hn : bs.Nodup) {i j : Nat} (hi : i < bs.length) (hj : j < bs.length) (hij : i ≠ j) : bs.getD i 0 ≠ bs.getD j 0 := by
  rw [List.getD_eq_getElem?_getD, List.getD_eq_getElem?_getD, List.getElem?_eq_getElem hi, List.getElem?_eq_getElem hj]
  simp only [Option.getD_some]
  intro e
  exact hij ((List.getElem_inj hn).1 e)
/-- The share j moves on by one. -/
theorem Own.grow {w W : World} {v : Value} {bs : List Nat} {sh : Shr} {j : Nat} (ho : Kd.R kP 67 W w.heap.size (fun _ => True) v bs) (hl : bs.length = sh.length) (hs : ∀ i, i < sh.length → ShareIn w W (bs.getD i 0) (sh.getD i zS)) (hb : ∀ b ∈ bs, w.heap.size ≤ b) (hn : bs.Nodup) (hj : j < sh.length) :
    Own w (W.setCell ⟨bs.getD j 0, 3, none⟩ (.int .i64 ((sh.getD j zS).2 + 1))) v (growAt sh j) := by
  obtain ⟨A, cap, h1, h2, h3⟩ := hs j hj
  refine ⟨bs, Kd.R_mono (Kd.R_far (p := ⟨bs.getD j 0, 3, none⟩) (Kd.R_types ho h1 (by decide)) (fun _ hk => hk.2) _) (fun _ _ => trivial), by rw [growAt_len]; exact hl, fun i hi => ?_, hb, hn⟩
  rw [growAt_len] at hi
  by_cases e : i = j
  · subst e
    have eg : (growAt sh i).getD i zS = ((sh.getD i zS).1, (sh.getD i zS).2 + 1) := by
      unfold growAt
      rw [List.getD_eq_getElem?_getD, List.getElem?_set_self hj]
      rfl
    rw [eg]
    exact ⟨A, cap, blk_put h1 3 _ rfl, h2, h3⟩
  · have eg : (growAt sh j).getD i zS = sh.getD i zS := by
      unfold growAt
      rw [List.getD_eq_getElem?_getD, List.getElem?_set_ne (fun h => e h.symm), ← List.getD_eq_getElem?_getD]
    rw [eg]
    obtain ⟨A', cap', g1, g2, g3⟩ := hs i hi
    exact ⟨A', cap', (Below.heap_setCell W ⟨bs.getD j 0, 3, none⟩ _ (bs.getD i 0) (nodup_getD hn (by omega) (by omega) e)).trans g1, g2, g3⟩
theorem mkSh_facts : ∀ (l : List S24), AllV l → GoodS (mkSh l) ∧ sumX (mkSh l) = loS l ∧ sumHi (mkSh l) = hiS l
  | [], _ => ⟨fun p hp => (by simp [mkSh] at hp), rfl, rfl⟩
  | c :: t, h => by
    obtain ⟨i1, i2, i3⟩ := mkSh_facts t (fun c hc => h c (List.mem_cons_of_mem _ hc))
    refine ⟨fun p hp => ?_, ?_, ?_⟩
    · rcases List.mem_cons.1 (show p ∈ (c, c.f0) :: mkSh t from hp) with rfl | hp
      · exact ⟨h c List.mem_cons_self, Int.le_refl _, by simp only; omega⟩
      · exact i1 p hp
    · simp only [sumX, mkSh, loS, List.map_cons, List.sum_cons] at i2 ⊢
      rw [i2]
    · simp only [sumHi, mkSh, hiS, List.map_cons, List.sum_cons] at i3 ⊢
      rw [i3]
/-- What is said of the shares while the total is divided. -/
def Mid (l : List S24) (a1 : Int) (n : Nat) (sh : Shr) : Prop := GoodS sh ∧ sumX sh = loS l + n ∧ sumHi sh = hiS l ∧ fillS ((a1 - loS l).toNat - n) sh = fillS (a1 - loS l).toNat (mkSh l)
theorem shares_of {w W : World} {bs : List Nat} {sh : Shr} (hB : Below w.heap.size w W) (hl : bs.length = sh.length) (hs : ∀ i, i < sh.length → ShareIn w W (bs.getD i 0) (sh.getD i zS)) (hg : GoodS sh) : Shares W bs sh :=
  ⟨hl, fun i hi => by
    obtain ⟨A, cap, h1, h2, h3⟩ := hs i hi
    obtain ⟨e, e1, _⟩ := good_off (hg _ (getD_mem sh i hi))
    exact ⟨⟨A, cap, h1, h2, Kd.C_below h3 hB⟩, by rw [e]; exact e1⟩⟩
theorem Mid.step {l : List S24} {a1 : Int} {n : Nat} {sh : Shr} {j : Nat} (h : Mid l a1 n sh) (hlt : loS l + n < a1) (hj : j < sh.length) (hb : (bestTo sh sh.length).1 = (j : Int)) (hx : (sh.getD j zS).2 < (sh.getD j zS).1.f0 + ((sh.getD j zS).1.f2.length : Int)) : Mid l a1 (n + 1) (growAt sh j) := by
  obtain ⟨h1, h2, h3, h4⟩ := h
  obtain ⟨g1, g2⟩ := growAt_sum sh j hj
  refine ⟨growAt_good sh j h1 hj hx, by rw [g1, h2]; push_cast; omega, by rw [g2, h3], ?_⟩
  rw [← h4]
  have e : (a1 - loS l).toNat - n = ((a1 - loS l).toNat - (n + 1)) + 1 := by omega
  rw [e]
  show _ = fillS _ (growAt sh (bestTo sh sh.length).1.toNat)
  rw [hb, Int.toNat_natCast]
theorem shares_new {w W : World} {bs : List Nat} {sh : Shr} {n : Nat} (hl : bs.length = sh.length) (hs : ∀ i, i < sh.length → ShareIn w W (bs.getD i 0) (sh.getD i zS)) (hn : W.heap.size ≤ n) : ∀ b ∈ bs, b ≠ n := by
  intro b hb
  obtain ⟨i, hi, rfl⟩ := List.mem_iff_getElem.1 hb
  obtain ⟨A, cap, h1, _⟩ := hs i (by omega)
  have h2 := (Array.getElem?_eq_some_iff.1 h1).1
  rw [List.getD_eq_getElem?_getD, List.getElem?_eq_getElem hi] at h2
  simp only [Option.getD_some] at h2
  omega
theorem blk_row {W W' : World} {base g : Nat} {v : Value} {bs : List Nat} {cs : Array Value} (hR : Kd.R kP 67 W base (fun _ => True) v bs) (BK : W.heap[g]? = some (.cells cs 24 (0, 0))) (hg : W.grownBy W' v.ownBlock) : W'.heap[g]? = some (.cells cs 24 (0, 0)) := by
  refine (hg.block g (Array.getElem?_eq_some_iff.1 BK).1 (fun e => ?_)).trans BK
  obtain ⟨cells, hc⟩ := own_typed hR.2.choose_spec.1 g e.symm
  rw [BK] at hc
  cases hc
/-- The world behind the box of a curve, the share's block and the literal of one pointer. -/
def box4 (w2 : World) (g : Nat) (x y : Int) (sl : Value) : World := ((((w2.setCell ⟨g, 0, none⟩ (.int .i64 x)).setCell ⟨g, 1, none⟩ (.int .i64 y)).setCell ⟨g, 2, none⟩ sl).alloc (.cells #[.int .i64 x, .int .i64 y, sl, .int .i64 x] 69)).alloc (.cells #[.pointer (some ⟨w2.heap.size, 0, none⟩)] 67)
theorem box4_facts {wr w2 : World} {g : Nat} {x y : Int} {sl a b c : Value} (BL : Below wr.heap.size wr w2) (GE : wr.heap.size ≤ g) (BK : w2.heap[g]? = some (.cells #[a, b, c] 24 (0, 0))) :
    Below wr.heap.size wr (box4 w2 g x y sl) ∧ (box4 w2 g x y sl).heap[g]? = some (.cells #[.int .i64 x, .int .i64 y, sl] 24 (0, 0)) ∧ (box4 w2 g x y sl).heap[w2.heap.size]? = some (.cells #[.int .i64 x, .int .i64 y, sl, .int .i64 x] 69 (0, 0)) ∧ (box4 w2 g x y sl).heap[w2.heap.size + 1]? = some (.cells #[.pointer (some ⟨w2.heap.size, 0, none⟩)] 67 (0, 0)) := by
  unfold box4
  have h3 := blk_put (blk_put (blk_put BK 0 (.int .i64 x) rfl) 1 (.int .i64 y) rfl) 2 sl rfl
  have hb := below_set (j := 2) (v := sl) (below_set (j := 1) (v := .int .i64 y) (below_set (j := 0) (v := .int .i64 x) BL GE) GE) GE
  have hsz : (((w2.setCell ⟨g, 0, none⟩ (.int .i64 x)).setCell ⟨g, 1, none⟩ (.int .i64 y)).setCell ⟨g, 2, none⟩ sl).heap.size = w2.heap.size := by simp [World.setCell]
  generalize ((w2.setCell ⟨g, 0, none⟩ (.int .i64 x)).setCell ⟨g, 1, none⟩ (.int .i64 y)).setCell ⟨g, 2, none⟩ sl = S at h3 hsz hb
  have n1 := blk_new S (.cells #[.int .i64 x, .int .i64 y, sl, .int .i64 x] 69)
  have n2 := blk_new (S.alloc (.cells #[.int .i64 x, .int .i64 y, sl, .int .i64 x] 69)) (.cells #[.pointer (some ⟨w2.heap.size, 0, none⟩)] 67)
  rw [World.size_alloc] at n2
  rw [hsz] at n1 n2
  exact ⟨below_alloc (below_alloc hb _) _, blk_alloc (blk_alloc h3 _) _, blk_alloc n1 _, n2⟩
theorem Own.grown {w W W' : World} {v u : Value} {sh : Shr} {xs : List Int} (h : Own w W v sh) (hu : Kd.R (Kd.int .i64) 3 W w.heap.size (fun _ => True) u xs) (hg : W.grownBy W' u.ownBlock) : Own w W' v sh := by
  obtain ⟨bs, h1, h2, h3, h4, h5⟩ := h
  refine ⟨bs, Kd.R_mono (Kd.R_grown (Kd.R_bound h1) hg (fun k hk => ?_)) (fun _ _ => trivial), h2, fun i hi => ?_, h4, h5⟩
  · obtain ⟨_, _, _, q, hq, cells, hc⟩ := hk
    refine Kd.R_ne hu hc ?_
    rcases List.mem_cons.1 hq with rfl | hq
    · decide
    · exact absurd hq (List.not_mem_nil)
  · obtain ⟨A, cap, g1, g2, g3⟩ := h3 i hi
    exact ⟨A, cap, blk_grown g1 hg (Kd.R_ne hu g1 (by decide)), g2, g3⟩
/-- What Split makes of a list of valid curves. -/
def splitOk (l : List S24) (a1 : Int) : List Int × Int × Int × Int :=
  if a1 < loS l then ([], 0, 0, 10) else if hiS l < a1 then ([], 0, 0, 10) else
    let sh := fillS (a1 - loS l).toNat (mkSh l)
    (sh.map (fun p => p.2), sumTo sh sh.length, priceTo sh sh.length, 0)
def SplitPost (w : World) (r : List Int × Int × Int × Int) (e : Ending) (w' : World) : Prop := ∃ v : Value, e = .returned (.tuple #[v, .int .i64 r.2.1, .int .i64 r.2.2.1, .int .i64 r.2.2.2]) ∧ Kd.R (Kd.int .i64) 3 w' w.heap.size (fun _ => True) v r.1 ∧ Below w.heap.size w w'
theorem SplitPost.err {w W : World} {r : List Int × Int × Int × Int} (n : Int) (hr : r = ([], 0, 0, n)) (hb : Below w.heap.size w W) : SplitPost w r (.returned (.tuple #[.slice none 0 0, .int .i64 0, .int .i64 0, .int .i64 n])) W := by
  subst hr
  exact ⟨_, rfl, Kd.R_nil _ _ _ _ _, hb⟩
theorem SplitPost.ok {w W : World} {r : List Int × Int × Int × Int} {xs : List Int} {a b n : Int} {v : Value} (hr : r = (xs, a, b, n)) (ho : Kd.R (Kd.int .i64) 3 W w.heap.size (fun _ => True) v xs) (hb : Below w.heap.size w W) : SplitPost w r (.returned (.tuple #[v, .int .i64 a, .int .i64 b, .int .i64 n])) W := by
  subst hr
  exact ⟨_, rfl, ho, hb⟩
set_option maxHeartbeats 8000000 in
set_option maxRecDepth 100000 in
theorem curve_Split.go (A0 : Option Addr) (c0 : Nat) (l0 : List S24) (a1 : Int) (w : World) (hr0 : Kd.C k24 w A0 l0.length l0) (hc0 : l0.length ≤ c0) (hn : l0.length ≤ 8) (h0 : 0 < l0.length) (hv : AllV l0) (R : Ending → World → Prop) (hR : ∀ e w', SplitPost w (splitOk l0 a1) e w' → R e w') :
    Calls Try.prog 19 #[.slice A0 l0.length c0, .int .i64 a1] w R := by
  have hz : ((l0.length : Int) == 0) = false := by rw [beq_eq_false_iff_ne]; omega
  have h8 : ¬ (8 : Int) < (l0.length : Int) := by omega
  have hany : l0.any (fun x => !validC x.f0 x.f1 x.f2) = false := by
    rw [List.any_eq_false]
    intro c hc
    rw [hv c hc]
    decide
  have HR := Aside0.mk hr0
  have HN := Aside0.mk hn
  have HV := Aside0.mk hv
  have HRR := Aside0.mk hR
  have HC := Aside0.mk (containsFunc_curve 57 #[] _ enter57 A0 c0 l0 w hr0 (pred_valid w))
  rw [hany] at HC
  clear hr0 hn hv hany hR
  have hu24 := Try.underlying24
  have hu69 := Try.underlying69
  go_enter Try.func19, Try.ntmps19
  go_wp2_with (go_at_call 56; (with_reducible refine HC.out.mono ?_); rintro e w1 ⟨rfl, hb1⟩; have HB1 := Aside0.mk hb1; clear hb1)
  go_loopg [8, 9, 10, 32] l0.length (fun gg v8 v9 v10 v32 wr => ∃ kk : Nat, kk ≤ l0.length ∧ l0.length - kk ≤ gg ∧ v32 = .int .i64 kk ∧ v9 = .int .i64 (loS (l0.take kk)) ∧ v10 = .int .i64 (hiS (l0.take kk)) ∧ Aside0 (Own w wr v8 (mkSh (l0.take kk))) ∧ Aside0 (Below w.heap.size w wr))
  case atStart => exact ⟨0, Nat.zero_le _, by omega, rfl, by simp [loS], by simp [hiS], ⟨Own.nil w w1⟩, HB1⟩
  case round =>
    obtain ⟨kk, hkk, hg, rfl, rfl, rfl, HO, HB⟩ := hrel
    have hm2 : l0.length ≤ 9223372036854775807 := by have := HN.out; omega
    by_cases hlt : kk < l0.length
    · have hltz : (kk : Int) < (l0.length : Int) := by omega
      obtain ⟨ad, A2, c2, e, hx0, hx1, hx2, hl2, hc2⟩ := at_T24 HR.out (kk : Int) (by omega) hltz
      subst e
      have er : rd_T24 l0 (kk : Int) = l0.getD kk z24 := by unfold rd_T24; rw [Int.toNat_natCast]
      rw [er] at hx0 hx1 hx2 hl2 hc2
      rw [Int.toNat_natCast] at hx0 hx1 hx2
      clear er
      generalize hy : l0.getD kk z24 = y at hx0 hx1 hx2 hl2 hc2
      have HY := Aside0.mk hy
      clear hy
      replace hx0 := (HB.out.cell (World.block_lt_of_cell? w _ hx0)).trans hx0
      replace hx1 := (HB.out.cell (World.block_lt_of_cell? w _ hx1)).trans hx1
      replace hx2 := (HB.out.cell (World.block_lt_of_cell? w _ hx2)).trans hx2
      have HL2 := Aside0.mk hl2
      obtain ⟨bs, o1, o2, o3, o4, o5⟩ := HO.out
      obtain ⟨Av, cv, ev⟩ := Kd.R_slice o1
      subst ev
      have O1 := Aside0.mk o1
      have O2 := Aside0.mk o2
      have O3 := Aside0.mk o3
      have O4 := Aside0.mk o4
      have O5 := Aside0.mk o5
      have HC2 := Aside0.mk hc2
      have hbl : bs.length ≤ 8 := by rw [o2]; simp [mkSh]; have := HN.out; omega
      have HBL := Aside0.mk hbl
      obtain ⟨i0, hi, hiz, his, hib⟩ := info_parts info67
      clear o1 o2 o3 o4 o5 hc2 hbl HO
      go_wp2_with (first | ((with_reducible refine gate_dst (N := 12) rfl ?_); refine box_event ?hg (N := 12) ?hd (cs := #[.int .i64 0, .int .i64 0, .slice none 0 0]) (t := 24) ?hr ?_; (case hd => rfl); (case hg => rfl); (case hr => first | (go_simp; done) | (go_simp; rfl)); intro g12 hg12 w2 hbox hb; have BL2 := Aside0.mk hb; have BK2 := Aside0.mk hbox; have GE2 := Aside0.mk (show wr.heap.size ≤ g12 by rw [hg12]; exact Nat.le_refl _); clear hb hg12; have ha0 : w2.cell? ⟨g12, 0, none⟩ = some (.int .i64 0) := (blk_cell hbox 0).trans rfl; have haf0 := blk_frozen hbox 0; have ha1 : w2.cell? ⟨g12, 1, none⟩ = some (.int .i64 0) := (blk_cell hbox 1).trans rfl; have haf1 := blk_frozen hbox 1; have ha2 : w2.cell? ⟨g12, 2, none⟩ = some (.slice none 0 0) := (blk_cell hbox 2).trans rfl; have haf2 := blk_frozen hbox 2; clear hbox) | (at_builtin; have F := box4_facts (x := y.f0) (y := y.f1) (sl := .slice A2 y.f2.length c2) BL2.out GE2.out BK2.out; unfold box4 at F; obtain ⟨F1, F2, F3, F4⟩ := F; refine wpList_append_own _ rfl (.tmp 36) (.tmp 42) 66 rfl w.heap.size 67 i0 (.pointer none) 1 8 Try.underlying66 hi hiz his hib rfl (by decide) _ bs.length (encs (fun b => .pointer (some ⟨b, 0, none⟩)) bs) rfl ?ow ⟨w2.heap.size + 1, 0, none⟩ 1 1 [.pointer (some ⟨w2.heap.size, 0, none⟩)] rfl rfl ?nw (by simp [Value.oneCell']) (by have := HBL.out; unfold maxLen; omega) (by have := HBL.out; omega) ?bb ?_; (case nw => (intro j u h; rcases j with _ | j; (simp at h; subst h; exact (blk_cell F4 0).trans rfl); (simp at h))); (case bb => exact Nat.le_trans HB.out.size F1.size); (case ow => exact Kd.own_of_R (Kd.R_below O1.out F1)); intro v5 w5 hown hg5 _; have HO5 := Aside0.mk (Own.snoc (p := (y, y.f0)) (Kd.R_below O1.out F1) O2.out (fun i hi => (O3.out i hi).below F1) O4.out O5.out F3 HL2.out HC2.out (Nat.le_trans HB.out.size BL2.out.size) (shares_new O2.out O3.out BL2.out.size) hown hg5); have HB5 := Aside0.mk ((below_then HB.out HB.out.size F1).grown hg5 (Nat.le_trans HB.out.size F1.size) (fun k hk => Kd.R_base O1.out k hk)); have BK5 := Aside0.mk (blk_row (Kd.R_below O1.out F1) F2 hg5); clear hown hg5 F1 F2 F3 F4 O1 O2 O3 O4 O5 ha0 ha1 ha2 haf0 haf1 haf2; have hb0 : w5.cell? ⟨g12, 0, none⟩ = some (.int .i64 y.f0) := (blk_cell BK5.out 0).trans rfl; have hb1 : w5.cell? ⟨g12, 1, none⟩ = some (.int .i64 y.f1) := (blk_cell BK5.out 1).trans rfl; have hb2 : w5.cell? ⟨g12, 2, none⟩ = some (.slice A2 y.f2.length c2) := (blk_cell BK5.out 2).trans rfl))
      have hvy : validC y.f0 y.f1 y.f2 = true := by rw [← HY.out]; exact HV.out _ (by rw [List.getD_eq_getElem?_getD, List.getElem?_eq_getElem hlt]; exact List.getElem_mem hlt)
      have hsb := sums_bound (l0.take kk) (allV_take HV.out kk)
      have hlk : (l0.take kk).length ≤ 8 := by rw [List.length_take]; have := HN.out; omega
      obtain ⟨v1, v2, _, _, v5', _⟩ := validC_parts hvy
      have hss := loS_succ l0 kk hlt
      have hmk := mkSh_succ l0 kk hlt
      rw [HY.out] at hss hmk
      have hw1 : IntKind.i64.wrap (loS (l0.take kk) + y.f0) = loS (l0.take (kk + 1)) := by rw [i64_w, hss.1]; unfold wrap64; omega
      have hw2 : IntKind.i64.wrap (hiS (l0.take kk) + wrap64 (y.f0 + (y.f2.length : Int))) = hiS (l0.take (kk + 1)) := by rw [i64_w, hss.2]; unfold wrap64; omega
      have HMK := Aside0.mk hmk
      clear hvy hsb hlk v1 v2 v5' hss hmk
      go_wp2_with (go_at_call 58; (with_reducible refine (curve_to.calls y.f0 y.f1 _ _ y.f2 _ _ (Kd.C_below HC2.out HB5.out) HL2.out rfl).mono ?_); rintro e w6 ⟨rfl, hb6⟩)
      go_roundg (l0.length - (kk + 1))
      case measure => omega
      case rel => exact ⟨kk + 1, by omega, by omega, by go_num, by rw [← i64_w, hw1], rfl, ⟨by rw [HMK.out]; exact HO5.out.below hb6⟩, ⟨below_then HB5.out HB5.out.size hb6⟩⟩
    · have hltz : ¬ (kk : Int) < (l0.length : Int) := by omega
      obtain rfl : kk = l0.length := by omega
      have HLo := Aside0.mk (show loS (l0.take l0.length) = loS l0 by rw [List.take_length])
      rw [HLo.out]
      have HHi := Aside0.mk (show hiS (l0.take l0.length) = hiS l0 by rw [List.take_length])
      rw [HHi.out]
      have HO2 := Aside0.mk (show Own w wr u8 (mkSh l0) by have h := HO.out; rw [List.take_length] at h; exact h)
      clear HO HLo HHi
      by_cases hlo : a1 < loS l0
      · go_wp2
        refine bodyPost_ret (results_list (rs := [.tmp 4, .tmp 5, .tmp 6, .tmp 7]) rfl (by simp) (.tmp (.tmp (.tmp (.tmp .nil))))) rfl ?_
        exact HRR.out _ _ (SplitPost.err 10 (by unfold splitOk; rw [if_pos (by omega)]) HB.out)
      · by_cases hhi : hiS l0 < a1
        · go_wp2
          refine bodyPost_ret (results_list (rs := [.tmp 4, .tmp 5, .tmp 6, .tmp 7]) rfl (by simp) (.tmp (.tmp (.tmp (.tmp .nil))))) rfl ?_
          exact HRR.out _ _ (SplitPost.err 10 (by unfold splitOk; rw [if_neg (by omega), if_pos (by omega)]) HB.out)
        · go_wp2
          have hsb := sums_bound l0 HV.out
          have HSB := Aside0.mk (show -8388608 ≤ loS l0 ∧ hiS l0 ≤ 8389120 by have := HN.out; omega)
          clear hsb
          have HHL := Aside0.mk (show a1 ≤ hiS l0 by omega)
          go_loopg [9] (a1 - loS l0).toNat (fun gg v9 wr => ∃ (n : Nat) (sh : Shr), v9 = .int .i64 (loS l0 + n) ∧ loS l0 + n ≤ a1 ∧ (a1 - loS l0).toNat - n ≤ gg ∧ Aside0 (Own w wr u8 sh) ∧ Aside0 (Below w.heap.size w wr) ∧ Aside0 (Mid l0 a1 n sh))
          case atStart => exact ⟨0, mkSh l0, by simp, by omega, by omega, HO2, HB, ⟨(mkSh_facts l0 HV.out).1, by rw [(mkSh_facts l0 HV.out).2.1]; simp, (mkSh_facts l0 HV.out).2.2, rfl⟩⟩
          case round =>
            obtain ⟨n, sh, rfl, hle, hg, HO, HB, HM⟩ := hrel
            by_cases hlt : loS l0 + n < a1
            · obtain ⟨bs, o1, o2, o3, o4, o5⟩ := HO.out
              obtain ⟨Av, cv, ev⟩ := Kd.R_slice o1
              subst ev
              obtain ⟨m1, m2, m3, m4⟩ := HM.out
              obtain ⟨j, j1, j2, j3⟩ := best_ok sh m1 (by have := HHL.out; omega)
              have hbest := best_calls Av cv bs sh wr (Kd.R_reads' o1).2.2 (shares_of HB.out o2 o3 m1)
              rw [j2] at hbest
              have hgj := m1 _ (getD_mem sh j j1)
              obtain ⟨q1, q2, _, _, q5, _⟩ := validC_parts hgj.1
              have hjb : j < bs.length := by omega
              obtain ⟨adp, ep, hp⟩ := at_P (Kd.R_reads' o1).2.2 j hjb
              subst ep
              obtain ⟨A3, c3, b1, b2, b3⟩ := o3 j j1
              have HM2 := Aside0.mk (HM.out.step hlt j1 j2 j3)
              have HG := Aside0.mk (fun (W' : World) (hbw : Below wr.heap.size wr W') => Own.grow (Kd.R_below o1 hbw) o2 (fun i hi => (o3 i hi).below hbw) o4 o5 j1)
              have HBE := Aside0.mk hbest
              have HP := Aside0.mk hp
              have HK := Aside0.mk b1
              have HBB := Aside0.mk (o4 _ (show bs.getD j 0 ∈ bs by rw [List.getD_eq_getElem?_getD, List.getElem?_eq_getElem hjb]; exact List.getElem_mem hjb))
              have hwx : IntKind.i64.wrap ((sh.getD j zS).2 + 1) = (sh.getD j zS).2 + 1 := by rw [i64_w]; have := hgj.2.1; unfold wrap64; omega
              have hjz : (j : Int) < (bs.length : Int) := by omega
              generalize bs.getD j 0 = b at b1 HG HP HK HBB
              generalize hxx : (sh.getD j zS).2 = x at b1 HG HK hwx
              clear o1 o2 o3 o4 o5 m1 m2 m3 m4 j2 j3 hbest hgj q1 q2 q5 b1 b2 b3 hp HO HM hxx
              go_wp2_with (go_at_call 59; (with_reducible refine HBE.out.mono ?_); rintro e w2 ⟨rfl, hd⟩; have HD2 := Aside0.mk hd.below; have hp2 := (hd.below.cell (World.block_lt_of_cell? _ _ HP.out)).trans HP.out; have BK2 := blk_below HK.out hd.below; have hx3 : w2.cell? ⟨b, 3, none⟩ = some (.int .i64 x) := (blk_cell BK2 3).trans rfl; have hxf := blk_frozen BK2 3; clear hd BK2)
              go_roundg ((a1 - loS l0).toNat - (n + 1))
              case measure => omega
              case rel =>
                have hsb := HSB.out
                have hhl := HHL.out
                exact ⟨n + 1, growAt sh j, by refine congrArg _ ?_; unfold wrap64; push_cast; omega, by omega, by omega, ⟨HG.out w2 HD2.out⟩, ⟨below_set (below_then HB.out HB.out.size HD2.out) HBB.out⟩, HM2⟩
            · have hne : loS l0 + (n : Int) = a1 := by omega
              have hsp : splitOk l0 a1 = (sh.map (fun p => p.2), sumTo sh sh.length, priceTo sh sh.length, 0) := by
                obtain ⟨_, _, _, m4⟩ := HM.out
                rw [show (a1 - loS l0).toNat - n = 0 by omega] at m4
                unfold splitOk
                rw [if_neg (by omega), if_neg (by omega), ← m4]
                rfl
              have HSP := Aside0.mk hsp
              have HGS := Aside0.mk HM.out.1
              have hshl : sh.length = l0.length := by
                obtain ⟨_, _, _, m4⟩ := HM.out
                have h5 := congrArg List.length m4
                rw [fillS_len, fillS_len] at h5
                rw [h5]
                simp [mkSh]
              clear hsp HM HHL HSB
              subst hne
              obtain ⟨bs, o1, o2, o3, o4, o5⟩ := HO.out
              obtain ⟨Av, cv, ev⟩ := Kd.R_slice o1
              subst ev
              have HR67 := Aside0.mk (Kd.R_reads' o1).2.2
              have HS3 := Aside0.mk o3
              have HL := Aside0.mk o2
              have hbl : bs.length ≤ 8 := by rw [o2, hshl]; exact HN.out
              clear o1 o2 o3 o4 o5
              go_wp2_with ((with_reducible refine gate_dst (N := 77) rfl ?_); refine Kd.R_lit (Kd.int .i64) _ 3 ?hg (N := 77) ?hd (xs := ([] : List Int)) (inner := []) (ok := fun _ => True) (okp := fun _ => True) ?hr ?hp (fun _ hk => hk) trivial (Below.refl _ _) (Nat.le_refl _) (by simp) ?_; (case hd => rfl); (case hg => rfl); (case hr => first | (go_simp; done) | (go_simp; rfl)); (case hp => exact Reps.none _ _); intro v1 w3 ho1 hb1 hg1 hn1; clear hg1 hn1; have HX := Aside0.mk (Kd.R_lower ho1 HB.out.size); have HB3 := Aside0.mk (below_then HB.out HB.out.size hb1); have HO3 := Aside0.mk (HO.out.below hb1); clear ho1 hb1)
              have hml : sh.length ≤ 8 := by omega
              clear HR67 hbl hshl
              go_loopg [13, 14, 15, 80] sh.length (fun gg v13 v14 v15 v80 wr => ∃ kk : Nat, kk ≤ sh.length ∧ sh.length - kk ≤ gg ∧ v80 = .int .i64 kk ∧ v14 = .int .i64 (sumTo sh kk) ∧ v15 = .int .i64 (priceTo sh kk) ∧ Aside0 (Kd.R (Kd.int .i64) 3 wr w.heap.size (fun _ => True) v13 ((sh.take kk).map (fun p => p.2))) ∧ Aside0 (Own w wr (.slice Av bs.length cv) sh) ∧ Aside0 (Below w.heap.size w wr))
              case atStart => exact ⟨0, Nat.zero_le _, by omega, rfl, rfl, rfl, HX, HO3, HB3⟩
              case round =>
                clear HX HO3 HB3 HO HB
                obtain ⟨kk, hkk, hg, rfl, rfl, rfl, HX, HO, HB⟩ := hrel
                obtain ⟨bs', o1, o2, o3, o4, o5⟩ := HO.out
                have hbb := Aside0.mk (show bs'.length = bs.length by rw [HL.out, o2])
                by_cases hlt : kk < sh.length
                · have hltz : (kk : Int) < (bs.length : Int) := by have := HL.out; omega
                  obtain ⟨Ab, cb, eb, _, hCb⟩ := Kd.R_reads o1
                  injection eb with eb1 eb2 eb3
                  subst eb1
                  subst eb3
                  clear eb2
                  obtain ⟨adp, ep, hp⟩ := at_P hCb kk (by have := hbb.out; omega)
                  subst ep
                  obtain ⟨A3, c3, b1, b2, b3⟩ := o3 kk hlt
                  have hgj := HGS.out _ (getD_mem sh kk hlt)
                  have hat := at_good hgj
                  have hpr := prices_good hgj 0
                  have HS1 := Aside0.mk (sumTo_succ sh kk hlt)
                  have HS2 := Aside0.mk (priceTo_succ sh kk hlt)
                  have HS4 := Aside0.mk (xs_succ sh kk hlt)
                  generalize bs'.getD kk 0 = b at hp b1
                  generalize atP (sh.getD kk zS) = av at hat HS1
                  generalize loPr (sh.getD kk zS) = lv at hpr HS2
                  generalize hiPr (sh.getD kk zS) = hv2 at hpr
                  generalize hyy : sh.getD kk zS = y at b1 b2 b3 hat hpr HS4 hgj
                  obtain ⟨cv2, x⟩ := y
                  have HAT := Aside0.mk hat
                  have HPR := Aside0.mk hpr
                  have HB2 := Aside0.mk b2
                  have HB3 := Aside0.mk b3
                  have HBK := Aside0.mk b1
                  have hx3 : wr.cell? ⟨b, 3, none⟩ = some (.int .i64 x) := (blk_cell b1 3).trans rfl
                  have hxl : ((sh.take kk).map (fun p => p.2)).length ≤ 8 := by rw [List.length_map, List.length_take]; omega
                  generalize (sh.take kk).map (fun p => p.2) = xs at HX HS4 hxl
                  obtain ⟨Ax, cx, ex⟩ := Kd.R_slice HX.out
                  subst ex
                  have HXL := Aside0.mk hxl
                  obtain ⟨i3, hi3, hiz3, his3, hib3⟩ := info_parts info3
                  clear hat hpr b1 b2 b3 o1 o2 o3 o4 o5 hyy hgj hxl
                  go_wp2_with (at_builtin; (have F := blk_new wr (.cells #[.int .i64 x] 3)); (refine wpList_append_own _ rfl (.tmp 84) (.tmp 89) 22 rfl w.heap.size 3 i3 (.int .i64 0) 1 8 Try.underlying22 hi3 hiz3 his3 hib3 rfl (by decide) _ xs.length (encs (Value.int .i64) xs) rfl ?ow ⟨wr.heap.size, 0, none⟩ 1 1 [.int .i64 x] rfl rfl ?nw (by simp [Value.oneCell']) (by have := HXL.out; unfold maxLen; omega) (by have := HXL.out; omega) ?bb ?_); (case nw => (intro j u h; rcases j with _ | j; (simp at h; subst h; exact (blk_cell F 0).trans rfl); (simp at h))); (case bb => exact Nat.le_trans HB.out.size (below_alloc (Below.refl _ wr) _).size); (case ow => exact Kd.own_of_R (Kd.R_below HX.out (below_alloc (Below.refl _ wr) _))); intro v5 w5 hown hg5 _)
                  have mixed : Try.prog.follows .mixedOrders = true := by kernel_rfl
                  have hba := below_alloc (Below.refl wr.heap.size wr) (.cells #[.int .i64 x] 3)
                  have HX5 := Aside0.mk (show Kd.R (Kd.int .i64) 3 w5 w.heap.size (fun _ => True) v5 (xs ++ [x]) from Kd.R_of_own (by simpa [encs] using hown) (fun _ _ => trivial))
                  have HO5 := Aside0.mk (Own.grown (HO.out.below hba) (Kd.R_below HX.out hba) hg5)
                  have HB5 := Aside0.mk ((below_then HB.out HB.out.size hba).grown hg5 (Nat.le_trans HB.out.size hba.size) (fun k hk => Kd.R_base HX.out k hk))
                  have HK5 := Aside0.mk (blk_grown (blk_below HBK.out hba) hg5 (Kd.R_ne (Kd.R_below HX.out hba) (blk_below HBK.out hba) (by decide)))
                  clear hba hown hg5 HX HO HB HBK hx3
                  have g0 : ∀ p : Bel w5, p.W.cell? ⟨b, 0, none⟩ = some (.int .i64 cv2.f0) := fun p => p.cell ((blk_cell HK5.out 0).trans rfl)
                  have g1 : ∀ p : Bel w5, p.W.cell? ⟨b, 1, none⟩ = some (.int .i64 cv2.f1) := fun p => p.cell ((blk_cell HK5.out 1).trans rfl)
                  have g2 : ∀ p : Bel w5, p.W.cell? ⟨b, 2, none⟩ = some (.slice A3 cv2.f2.length c3) := fun p => p.cell ((blk_cell HK5.out 2).trans rfl)
                  have g3 : ∀ p : Bel w5, p.W.cell? ⟨b, 3, none⟩ = some (.int .i64 x) := fun p => p.cell ((blk_cell HK5.out 3).trans rfl)
                  refine wp_region_bel (by assumption) (by kernel_rfl) ?_
                  repeat (quiet_step ((go_at_call 61; refine Calls.bel_of (curve_at.calls _ _ _ _ _ _ _ _ (Kd.C_below (Kd.C_below HB3.out HB5.out) (Bel.h _)) HB2.out HAT.out))))
                  refine wpQuiet_nil ?_
                  intro wq hw'
                  obtain ⟨pq, hw''⟩ := hw'
                  have hq := Bel.h pq
                  rw [← hw''] at hq
                  clear hw'' pq
                  have HO6 := Aside0.mk (HO5.out.below hq)
                  have HX6 := Aside0.mk (Kd.R_below HX5.out hq)
                  have HB6 := Aside0.mk (below_then HB5.out HB5.out.size hq)
                  have HK6 := Aside0.mk (blk_below HK5.out hq)
                  clear hq g0 g1 g2 g3 HO5 HX5 HB5 HK5
                  have g0 : ∀ p : Bel wq, p.W.cell? ⟨b, 0, none⟩ = some (.int .i64 cv2.f0) := fun p => p.cell ((blk_cell HK6.out 0).trans rfl)
                  have g1 : ∀ p : Bel wq, p.W.cell? ⟨b, 1, none⟩ = some (.int .i64 cv2.f1) := fun p => p.cell ((blk_cell HK6.out 1).trans rfl)
                  have g2 : ∀ p : Bel wq, p.W.cell? ⟨b, 2, none⟩ = some (.slice A3 cv2.f2.length c3) := fun p => p.cell ((blk_cell HK6.out 2).trans rfl)
                  have g3 : ∀ p : Bel wq, p.W.cell? ⟨b, 3, none⟩ = some (.int .i64 x) := fun p => p.cell ((blk_cell HK6.out 3).trans rfl)
                  go_wp2
                  refine wp_region_bel (by assumption) (by kernel_rfl) ?_
                  repeat (quiet_step ((go_at_call 62; refine Calls.bel_of (curve_prices.calls _ _ _ _ _ _ _ _ _ _ (Kd.C_below (Kd.C_below HB3.out HB6.out) (Bel.h _)) HB2.out HPR.out))))
                  refine wpQuiet_nil ?_
                  intro wq hw'
                  obtain ⟨pq, hw''⟩ := hw'
                  have hq := Bel.h pq
                  rw [← hw''] at hq
                  clear hw'' pq
                  have HO7 := Aside0.mk (HO6.out.below hq)
                  have HX7 := Aside0.mk (Kd.R_below HX6.out hq)
                  have HB7 := Aside0.mk (below_then HB6.out HB6.out.size hq)
                  clear hq g0 g1 g2 g3 HO6 HX6 HB6 HK6
                  go_wp2
                  all_goals
                    go_roundg (sh.length - (kk + 1))
                    case measure => omega
                    case rel => exact ⟨kk + 1, by omega, by omega, by go_num, by rw [HS1.out, i64_w], by rw [HS2.out]; first | done | (refine congrArg _ ?_; omega), ⟨by rw [HS4.out]; exact HX7.out⟩, HO7, HB7⟩
                · obtain rfl : kk = sh.length := by omega
                  have hltz : ¬ ((sh.length : Nat) : Int) < (bs.length : Int) := by have := HL.out; omega
                  go_wp2
                  refine bodyPost_ret (results_list (rs := [.tmp 4, .tmp 5, .tmp 6, .tmp 7]) rfl (by simp) (.tmp (.tmp (.tmp (.tmp .nil))))) rfl ?_
                  exact HRR.out _ _ (SplitPost.ok HSP.out (by have h := HX.out; rw [List.take_length] at h; exact h) HB.out)
def splitR (l : List S24) (a1 : Int) : List Int × Int × Int × Int :=
  if 8 < l.length then ([], 0, 0, 3) else if l.length = 0 then ([], 0, 0, 2) else if l.any (fun x => !validC x.f0 x.f1 x.f2) = true then ([], 0, 0, 2) else splitOk l a1
def curve_Split.f (k : Nat) (l : List S24) (a1 : Int) : Option (List Int × Int × Int × Int) := some (splitR l a1)
theorem curve_Split.mono : ∀ a0 a1 k, LeO (curve_Split.f k a0 a1) (curve_Split.f (k + 1) a0 a1) := fun _ _ _ => LeO.refl _
set_option maxHeartbeats 4000000 in
set_option maxRecDepth 100000 in
theorem curve_Split.all (A0 : Option Addr) (c0 : Nat) (l0 : List S24) (a1 : Int) (w : World) (hr0 : Kd.C k24 w A0 l0.length l0) (hc0 : l0.length ≤ c0) (R : Ending → World → Prop) (hR : ∀ e w', SplitPost w (splitR l0 a1) e w' → R e w') :
    Calls Try.prog 19 #[.slice A0 l0.length c0, .int .i64 a1] w R := by
  have HRR := Aside0.mk hR
  clear hR
  by_cases h8 : 8 < l0.length
  · have h8z : (8 : Int) < (l0.length : Int) := by omega
    have e1 : splitR l0 a1 = ([], 0, 0, 3) := by unfold splitR; rw [if_pos h8]
    have E1 := Aside0.mk e1
    clear h8 e1
    go_enter Try.func19, Try.ntmps19
    go_wp2
    refine bodyPost_ret (results_list (rs := [.tmp 4, .tmp 5, .tmp 6, .tmp 7]) rfl (by simp) (.tmp (.tmp (.tmp (.tmp .nil))))) rfl ?_
    exact HRR.out _ _ (SplitPost.err 3 E1.out (Below.refl _ w))
  · have h8z : ¬ (8 : Int) < (l0.length : Int) := by omega
    by_cases h0 : l0.length = 0
    · have hz : ((l0.length : Int) == 0) = true := by rw [beq_iff_eq]; omega
      have e1 : splitR l0 a1 = ([], 0, 0, 2) := by unfold splitR; rw [if_neg h8, if_pos h0]
      have E1 := Aside0.mk e1
      clear h8 e1 h0
      go_enter Try.func19, Try.ntmps19
      go_wp2
      refine bodyPost_ret (results_list (rs := [.tmp 4, .tmp 5, .tmp 6, .tmp 7]) rfl (by simp) (.tmp (.tmp (.tmp (.tmp .nil))))) rfl ?_
      exact HRR.out _ _ (SplitPost.err 2 E1.out (Below.refl _ w))
    · by_cases ha : l0.any (fun x => !validC x.f0 x.f1 x.f2) = true
      · have hz : ((l0.length : Int) == 0) = false := by rw [beq_eq_false_iff_ne]; omega
        have e1 : splitR l0 a1 = ([], 0, 0, 2) := by unfold splitR; rw [if_neg h8, if_neg h0, if_pos ha]
        have E1 := Aside0.mk e1
        have HC := Aside0.mk (containsFunc_curve 57 #[] _ enter57 A0 c0 l0 w hr0 (pred_valid w))
        rw [ha] at HC
        clear h8 e1 h0 ha
        go_enter Try.func19, Try.ntmps19
        go_wp2_with (go_at_call 56; (with_reducible refine HC.out.mono ?_); rintro e w1 ⟨rfl, hb1⟩; have HB1 := Aside0.mk hb1; clear hb1)
        refine bodyPost_ret (results_list (rs := [.tmp 4, .tmp 5, .tmp 6, .tmp 7]) rfl (by simp) (.tmp (.tmp (.tmp (.tmp .nil))))) rfl ?_
        exact HRR.out _ _ (SplitPost.err 2 E1.out HB1.out)
      · have hv : AllV l0 := by
          intro c hc
          have ha2 : l0.any (fun x => !validC x.f0 x.f1 x.f2) = false := Bool.eq_false_iff.mpr ha
          rw [List.any_eq_false] at ha2
          simpa using ha2 c hc
        refine curve_Split.go A0 c0 l0 a1 w hr0 hc0 (by omega) (by omega) hv R (fun e w' hp => HRR.out e w' ?_)
        unfold splitR
        rw [if_neg h8, if_neg h0, if_neg ha]
        exact hp
set_option maxHeartbeats 4000000 in
set_option maxRecDepth 100000 in
theorem curve_Split.calls (k : Nat) (A0 : Option Addr) (c0 : Nat) (l0 : List S24) (a1 : Int) (r1 : List Int) (r2 r3 r4 : Int) (w : World) (hr0 : Kd.C k24 w A0 l0.length l0) (hc0 : l0.length ≤ c0) (h : curve_Split.f k l0 a1 = some (r1, r2, r3, r4)) :
    Calls Try.prog 19 #[.slice A0 l0.length c0, .int .i64 a1] w fun e w' => ∃ v_ : Value, e = .returned (.tuple #[v_, .int .i64 r2, .int .i64 r3, .int .i64 r4]) ∧ Kd.R (Kd.int .i64) 3 w' w.heap.size (fun _ => True) v_ r1 ∧ Below w.heap.size w w' := by
  have hr : splitR l0 a1 = (r1, r2, r3, r4) := Option.some.inj h
  have key : ∀ e w', SplitPost w (splitR l0 a1) e w' → ∃ v_ : Value, e = .returned (.tuple #[v_, .int .i64 r2, .int .i64 r3, .int .i64 r4]) ∧ Kd.R (Kd.int .i64) 3 w' w.heap.size (fun _ => True) v_ r1 ∧ Below w.heap.size w w' := by
    intro e w' hp
    rw [hr] at hp
    exact hp
  exact curve_Split.all A0 c0 l0 a1 w hr0 hc0 _ key
end Go.Proofs.Ytingjpcgehgiiaa.Pr
end
section
namespace Go.Proofs.Ytingjpcgehgiiaa.Pr
open Go.RowKit Go.Proofs.YtingjpcgehgiiaaW.PrintWords Go.Proofs.YtingjpcgehgiiaaW.PrintLast Go.Proofs.YtingjpcgehgiiaaW.PrintMore
set_option linter.unusedVariables false
set_option linter.unusedSimpArgs false
/-- A sum over the first numbers. -/
def sm (f : Nat → Int) : Nat → Int
  | 0 => 0
  | n + 1 => sm f n + f n
theorem sm_shift (f : Nat → Int) : ∀ n, sm f (n + 1) = f 0 + sm (fun i => f (i + 1)) n
  | 0 => by simp [sm]
  | n + 1 => by
    rw [sm, sm_shift f n]
    conv => rhs; rw [sm]
    omega
theorem sm_le {f g : Nat → Int} : ∀ {n : Nat}, (∀ i, i < n → f i ≤ g i) → sm f n ≤ sm g n
  | 0, _ => by simp [sm]
  | n + 1, h => by
    have := sm_le (n := n) fun i hi => h i (by omega)
    have := h n (by omega)
    simp only [sm]
    omega
theorem sm_lt {f g : Nat → Int} : ∀ {n : Nat}, (∀ i, i < n → f i ≤ g i) → (∃ i, i < n ∧ f i < g i) → sm f n < sm g n
  | 0, _, ⟨i, hi, _⟩ => by omega
  | n + 1, h, ⟨i, hi, hlt⟩ => by
    have h1 := sm_le (n := n) fun i hi => h i (by omega)
    have h2 := h n (by omega)
    simp only [sm]
    by_cases e : i = n
    · subst e; omega
    · have := sm_lt (n := n) (fun i hi => h i (by omega)) ⟨i, by omega, hlt⟩
      omega
theorem sm_congr {f g : Nat → Int} {n : Nat} (h : ∀ i, i < n → f i = g i) : sm f n = sm g n := by
  have h1 := sm_le (n := n) (f := f) (g := g) fun i hi => by rw [h i hi]; exact Int.le_refl _
  have h2 := sm_le (n := n) (f := g) (g := f) fun i hi => by rw [h i hi]; exact Int.le_refl _
  omega
theorem sm_same {f g : Nat → Int} {n : Nat} (h : ∀ i, i < n → f i ≤ g i) (he : sm f n = sm g n) (i : Nat) (hi : i < n) : f i = g i := by
  by_cases e : f i = g i
  · exact e
  · have := sm_lt h ⟨i, hi, by have := h i hi; omega⟩
    omega
theorem sm_sub (f g : Nat → Int) : ∀ n, sm (fun i => f i - g i) n = sm f n - sm g n
  | 0 => by simp [sm]
  | n + 1 => by
    simp only [sm]
    rw [sm_sub f g n]
    omega
theorem sm_mul (p : Int) (f : Nat → Int) : ∀ n, sm (fun i => p * f i) n = p * sm f n
  | 0 => by simp [sm]
  | n + 1 => by
    simp only [sm]
    rw [sm_mul p f n, Int.mul_add]
theorem sumX_sm : ∀ sh : Shr, sumX sh = sm (fun i => (sh.getD i zS).2) sh.length
  | [] => rfl
  | p :: t => by
    have e : sumX (p :: t) = p.2 + sumX t := by simp [sumX]
    rw [e, sumX_sm t, List.length_cons, sm_shift]
    rfl
/-- The slopes that are taken, and those that are not. -/
def tk (p : S24 × Int) : List Int := p.1.f2.take (p.2 - p.1.f0).toNat
def dr (p : S24 × Int) : List Int := p.1.f2.drop (p.2 - p.1.f0).toNat
/-- What is taken is not above what is not, and below it if that is in a later curve. -/
def Inv (sh : Shr) : Prop := ∀ i j, i < sh.length → j < sh.length → ∀ s ∈ tk (sh.getD i zS), ∀ t ∈ dr (sh.getD j zS), s ≤ t ∧ (i < j → s < t)
theorem good_vc {p : S24 × Int} (h : GoodC p) : Vc p.1 := h.1
theorem good_in {p : S24 × Int} (h : GoodC p) : inC p.1 p.2 := ⟨h.2.1, h.2.2⟩
/-- The next slope is the least of those that are not taken. -/
theorem dr_head {p : S24 × Int} (h : GoodC p) {t : Int} (ht : t ∈ dr p) : p.2 < p.1.f0 + (p.1.f2.length : Int) ∧ rd p.1.f2 (p.2 - p.1.f0) ≤ t := by
  obtain ⟨e, h1, h2⟩ := good_off h
  obtain ⟨_, _, _, _, _, hs, _⟩ := vc_parts (good_vc h)
  unfold dr at ht
  obtain ⟨i, i1, i2, rfl⟩ := mem_drop_rd ht
  obtain ⟨k, hk⟩ := Int.eq_ofNat_of_zero_le h1
  rw [hk, Int.toNat_natCast] at i1
  refine ⟨by omega, ?_⟩
  rw [hk]
  exact sorted_rd hs i1 i2
/-- What the division is. -/
structure Div (l : List S24) (a1 : Int) (sh : Shr) : Prop where
  fst : sh.map Prod.fst = l
  good : GoodS sh
  inv : Inv sh
  sum : sumX sh = a1
theorem Div.len {l : List S24} {a1 : Int} {sh : Shr} (h : Div l a1 sh) : sh.length = l.length := by
  have := congrArg List.length h.fst
  rwa [List.length_map] at this
theorem Div.get {l : List S24} {a1 : Int} {sh : Shr} (h : Div l a1 sh) (i : Nat) (hi : i < l.length) : (sh.getD i zS).1 = l.getD i z24 := by
  have hl := h.len
  rw [← h.fst, List.getD_eq_getElem?_getD, List.getD_eq_getElem?_getD, List.getElem?_map, List.getElem?_eq_getElem (show i < sh.length by omega)]
  rfl
/-- The price. -/
theorem price_spec (sh : Shr) : ∀ k, k ≤ sh.length → (∀ i, i < k → loPr (sh.getD i zS) ≤ priceTo sh k) ∧ -1048576 ≤ priceTo sh k ∧ (priceTo sh k = -1048576 ∨ ∃ i, i < k ∧ priceTo sh k = loPr (sh.getD i zS) ∧ 0 < (sh.getD i zS).2 - (sh.getD i zS).1.f0)
  | 0, _ => ⟨fun i hi => by omega, by simp [priceTo], .inl (by simp [priceTo])⟩
  | k + 1, h => by
    obtain ⟨h1, h2, h3⟩ := price_spec sh k (by omega)
    rw [priceTo_succ sh k (by omega)]
    refine ⟨fun i hi => ?_, by omega, ?_⟩
    · by_cases e : i = k
      · subst e; omega
      · have := h1 i (by omega); omega
    · by_cases hm : loPr (sh.getD k zS) ≤ priceTo sh k
      · rw [show max (priceTo sh k) (loPr (sh.getD k zS)) = priceTo sh k by omega]
        rcases h3 with h3 | ⟨i, i1, i2⟩
        · exact .inl h3
        · exact .inr ⟨i, by omega, i2⟩
      · rw [show max (priceTo sh k) (loPr (sh.getD k zS)) = loPr (sh.getD k zS) by omega]
        refine .inr ⟨k, by omega, rfl, ?_⟩
        by_cases hp : 0 < (sh.getD k zS).2 - (sh.getD k zS).1.f0
        · exact hp
        · unfold loPr at hm
          rw [if_neg hp] at hm
          omega
theorem tk_le {p : S24 × Int} (h : GoodC p) {s : Int} (hs : s ∈ tk p) : s ≤ loPr p := by
  obtain ⟨_, _, _, _, _, hso, _⟩ := vc_parts (good_vc h)
  obtain ⟨_, o1, o2⟩ := good_off h
  unfold tk at hs
  obtain ⟨i, i1, i2, rfl⟩ := mem_take_rd hs
  unfold loPr
  rw [if_pos (by omega)]
  have e : p.2 - p.1.f0 - 1 = (((p.2 - p.1.f0).toNat - 1 : Nat) : Int) := by omega
  rw [e]
  exact sorted_rd hso (by omega) (by omega)
theorem lo_mem {p : S24 × Int} (h : GoodC p) (h0 : 0 < p.2 - p.1.f0) : loPr p ∈ tk p := by
  obtain ⟨_, o1, o2⟩ := good_off h
  unfold loPr tk
  rw [if_pos h0]
  have e : p.2 - p.1.f0 - 1 = (((p.2 - p.1.f0).toNat - 1 : Nat) : Int) := by omega
  rw [e]
  exact rd_mem_take (by omega) (by omega)
theorem Div.price {l : List S24} {a1 : Int} {sh : Shr} (h : Div l a1 sh) : -1048576 ≤ priceTo sh sh.length ∧ priceTo sh sh.length ≤ 1048576 ∧ ∀ i, i < sh.length → (∀ s ∈ tk (sh.getD i zS), s ≤ priceTo sh sh.length) ∧ (∀ t ∈ dr (sh.getD i zS), priceTo sh sh.length ≤ t) := by
  obtain ⟨h1, h2, h3⟩ := price_spec sh sh.length (Nat.le_refl _)
  refine ⟨h2, ?_, fun i hi => ⟨fun s hs => ?_, fun t ht => ?_⟩⟩
  · rcases h3 with h3 | ⟨i, i1, i2, i3⟩
    · omega
    · have g := h.good _ (getD_mem sh i i1)
      obtain ⟨_, _, _, _, _, _, hb⟩ := vc_parts (good_vc g)
      have := hb _ (List.mem_of_mem_take (lo_mem g i3))
      omega
  · have := h1 i hi
    have := tk_le (h.good _ (getD_mem sh i hi)) hs
    omega
  · rcases h3 with h3 | ⟨i', i1, i2, i3⟩
    · have g := h.good _ (getD_mem sh i hi)
      obtain ⟨_, _, _, _, _, _, hb⟩ := vc_parts (good_vc g)
      have := hb _ (List.mem_of_mem_drop ht)
      omega
    · have g := h.good _ (getD_mem sh i' i1)
      have := (h.inv i' i i1 hi _ (lo_mem g i3) t ht).1
      omega
/-- Each share is where its curve is greatest. -/
theorem Div.tight {l : List S24} {a1 : Int} {sh : Shr} (h : Div l a1 sh) (i : Nat) (hi : i < sh.length) : priceTo sh sh.length * (sh.getD i zS).2 - valC (sh.getD i zS).1 (sh.getD i zS).2 = gC (sh.getD i zS).1 (priceTo sh sh.length) := by
  obtain ⟨_, _, h3⟩ := h.price
  obtain ⟨p1, p2⟩ := h3 i hi
  exact young_eq (good_in (h.good _ (getD_mem sh i hi))) p1 p2
/-- No other division costs less; one that costs asx much comes later. -/
theorem Div.best {l : List S24} {a1 : Int} {sh : Shr} (h : Div l a1 sh) {y : Nat → Int} (hin : ∀ i, i < l.length → inC (l.getD i z24) (y i)) (hy : sm y l.length = a1) :
    sm (fun i => valC (sh.getD i zS).1 (sh.getD i zS).2) sh.length ≤ sm (fun i => valC (l.getD i z24) (y i)) l.length ∧
    (sm (fun i => valC (l.getD i z24) (y i)) l.length = sm (fun i => valC (sh.getD i zS).1 (sh.getD i zS).2) sh.length → ∀ i, i < l.length → (∀ j, j < i → (sh.getD j zS).2 = y j) → (sh.getD i zS).2 ≠ y i → (sh.getD i zS).2 < y i) := by
  have hl := h.len
  have hX := h.sum
  rw [sumX_sm, hl] at hX
  have hyo : ∀ i, i < l.length → priceTo sh sh.length * y i - valC (l.getD i z24) (y i) ≤ gC (l.getD i z24) (priceTo sh sh.length) := fun i hi => young _ (hin i hi)
  have hti : ∀ i, i < l.length → priceTo sh sh.length * (sh.getD i zS).2 - valC (sh.getD i zS).1 (sh.getD i zS).2 = gC (l.getD i z24) (priceTo sh sh.length) := fun i hi => by rw [h.tight i (by omega), h.get i hi]
  have s1 := sm_le hyo
  have s2 := sm_congr hti
  rw [sm_sub, sm_mul, hy] at s1
  rw [sm_sub, sm_mul, hX] at s2
  rw [hl]
  refine ⟨by omega, fun he i hi hb hne => ?_⟩
  have hsame := sm_same hyo (by rw [sm_sub, sm_mul, hy]; omega)
  by_cases hlt : (sh.getD i zS).2 < y i
  · exact hlt
  · exfalso
    have : ∃ i', i < i' ∧ i' < l.length ∧ (sh.getD i' zS).2 < y i' := by
      apply Classical.byContradiction
      intro hno
      have := sm_lt (f := y) (g := fun i => (sh.getD i zS).2) (n := l.length) (fun j hj => by
        by_cases e1 : j < i
        · have := hb j e1
          omega
        · by_cases e2 : j = i
          · subst e2; omega
          · apply Classical.byContradiction
            intro hh
            exact hno ⟨j, by omega, hj, by omega⟩) ⟨i, hi, by omega⟩
      omega
    obtain ⟨i', h1, h2, h3⟩ := this
    have gi := h.good _ (getD_mem sh i (by omega))
    have gi' := h.good _ (getD_mem sh i' (by omega))
    have c1 := young_conv (hin i hi) (hsame i hi)
    have c2 := young_conv (hin i' h2) (hsame i' h2)
    have yi := hin i hi
    have yi' := hin i' h2
    rw [← h.get i hi] at c1 yi
    rw [← h.get i' h2] at c2 yi'
    obtain ⟨yi1, yi2⟩ := yi
    obtain ⟨yj1, yj2⟩ := yi'
    obtain ⟨_, gi1, gi2⟩ := gi
    obtain ⟨_, gj1, gj2⟩ := gi'
    have a1 : rd (sh.getD i zS).1.f2 (((y i - (sh.getD i zS).1.f0).toNat : Nat) : Int) ∈ tk (sh.getD i zS) := rd_mem_take (by omega) (by omega)
    have a2 := c1.2 _ (rd_mem_drop (l := (sh.getD i zS).1.f2) (k := (y i - (sh.getD i zS).1.f0).toNat) (i := (y i - (sh.getD i zS).1.f0).toNat) (Nat.le_refl _) (by omega))
    have b1 : rd (sh.getD i' zS).1.f2 ((((sh.getD i' zS).2 - (sh.getD i' zS).1.f0).toNat : Nat) : Int) ∈ dr (sh.getD i' zS) := rd_mem_drop (Nat.le_refl _) (by omega)
    have b2 := c2.1 _ (rd_mem_take (l := (sh.getD i' zS).1.f2) (k := (y i' - (sh.getD i' zS).1.f0).toNat) (i := ((sh.getD i' zS).2 - (sh.getD i' zS).1.f0).toNat) (by omega) (by omega))
    have := (h.inv i i' (by omega) (by omega) _ a1 _ b1).2 h1
    omega
end Go.Proofs.Ytingjpcgehgiiaa.Pr
end
