/- What the proof of the law needs, trimmed and merged by wip/pack.py out of the texts YtingjpcgehgiiaaExtSplit, YtingjpcgehgiiaaBes, YtingjpcgehgiiaaSfx, YtingjpcgehgiiaaPrx25. No condition. -/
import Derived.Test.YtingjpcgehgiiaaKCurveSplits0
import Derived.Test.YtingjpcgehgiiaaKCurveSplits1
import Derived.Test.YtingjpcgehgiiaaKCurveSplits2
import Derived.Test.YtingjpcgehgiiaaKCurveSplits3
section
namespace Go.Proofs.Ytingjpcgehgiiaa.Pr
open Go.RowKit Go.Shelf Go.Proofs.YtingjpcgehgiiaaW.PrintWords Go.Proofs.YtingjpcgehgiiaaW.PrintLast Go.Proofs.YtingjpcgehgiiaaW.PrintMore
set_option linter.unusedVariables false
set_option linter.unusedSimpArgs false
theorem info67 : (Try.prog.info? 67).map (fun i => (i.zero, i.size, i.bytes)) = some (some (.pointer none), 1, 8) := by kernel_rfl
def loS (l : List S24) : Int := (l.map (fun c => c.f0)).sum
def hiS (l : List S24) : Int := (l.map (fun c => c.f0 + (c.f2.length : Int))).sum
def mkSh (l : List S24) : Shr := l.map (fun c => (c, c.f0))
def AllV (l : List S24) : Prop := ∀ c ∈ l, validC c.f0 c.f1 c.f2 = true
theorem sums_bound : ∀ (l : List S24), AllV l → -(1048576 * (l.length : Int)) ≤ loS l ∧ loS l ≤ 1048576 * (l.length : Int) ∧ loS l ≤ hiS l ∧ hiS l ≤ 1048640 * (l.length : Int)
  | [], _ => by simp [loS, hiS]
  | c :: t, h => by
    have ih := sums_bound t (fun c hc => h c (List.mem_cons_of_mem _ hc))
    obtain ⟨v1, v2, _, _, v5, _⟩ := validC_parts (h c List.mem_cons_self)
    simp only [loS, hiS, List.map_cons, List.sum_cons, List.length_cons] at ih ⊢
    push_cast
    omega
theorem take_snoc (l : List S24) (k : Nat) (h : k < l.length) : l.take (k + 1) = l.take k ++ [l.getD k z24] := by
  rw [List.take_add_one, List.getElem?_eq_getElem h, List.getD_eq_getElem?_getD, List.getElem?_eq_getElem h]
  rfl
theorem loS_succ (l : List S24) (k : Nat) (h : k < l.length) : loS (l.take (k + 1)) = loS (l.take k) + (l.getD k z24).f0 ∧ hiS (l.take (k + 1)) = hiS (l.take k) + ((l.getD k z24).f0 + ((l.getD k z24).f2.length : Int)) := by
  rw [take_snoc l k h]
  simp only [loS, hiS, List.map_append, List.sum_append, List.map_cons, List.map_nil, List.sum_cons, List.sum_nil]
  omega
theorem mkSh_succ (l : List S24) (k : Nat) (h : k < l.length) : mkSh (l.take (k + 1)) = mkSh (l.take k) ++ [((l.getD k z24), (l.getD k z24).f0)] := by
  rw [take_snoc l k h]
  simp only [mkSh, List.map_append, List.map_cons, List.map_nil]
theorem allV_take {l : List S24} (h : AllV l) (k : Nat) : AllV (l.take k) := fun c hc => h c (List.mem_of_mem_take hc)
/-- A share's block; its curve's slopes are read in the world where the call began. -/
def ShareIn (w W : World) (b : Nat) (p : S24 × Int) : Prop := ∃ A cap, W.heap[b]? = some (.cells #[.int .i64 p.1.f0, .int .i64 p.1.f1, .slice A p.1.f2.length cap, .int .i64 p.2] 69 (0, 0)) ∧ p.1.f2.length ≤ cap ∧ Kd.C (Kd.int .i64) w A p.1.f2.length p.1.f2
/-- The shares of a call's own. -/
def Own (w W : World) (v : Value) (sh : Shr) : Prop := ∃ bs : List Nat, Kd.R kP 67 W w.heap.size (fun _ => True) v bs ∧ bs.length = sh.length ∧ (∀ i, i < sh.length → ShareIn w W (bs.getD i 0) (sh.getD i zS)) ∧ (∀ b ∈ bs, w.heap.size ≤ b) ∧ bs.Nodup
theorem Own.nil (w W : World) : Own w W (.slice none 0 0) [] := ⟨[], Kd.R_nil _ _ _ _ _, rfl, fun i hi => by simp at hi, fun b hb => by simp at hb, List.nodup_nil⟩
theorem ShareIn.below {w W W' : World} {b : Nat} {p : S24 × Int} (h : ShareIn w W b p) (hb : Below W.heap.size W W') : ShareIn w W' b p := by
  obtain ⟨A, cap, h1, h2, h3⟩ := h
  exact ⟨A, cap, blk_below h1 hb, h2, h3⟩
theorem Own.below {w W W' : World} {v : Value} {sh : Shr} (h : Own w W v sh) (hb : Below W.heap.size W W') : Own w W' v sh := by
  obtain ⟨bs, h1, h2, h3, h4, h5⟩ := h
  exact ⟨bs, Kd.R_below h1 hb, h2, fun i hi => (h3 i hi).below hb, h4, h5⟩
/-- One share more. -/
theorem Own.snoc {w W W' : World} {v v' : Value} {bs : List Nat} {sh : Shr} {p : S24 × Int} {nb : Nat} {A : Option Addr} {cap : Nat}
    (ho : Kd.R kP 67 W w.heap.size (fun _ => True) v bs) (hl : bs.length = sh.length) (hs : ∀ i, i < sh.length → ShareIn w W (bs.getD i 0) (sh.getD i zS)) (hb : ∀ b ∈ bs, w.heap.size ≤ b) (hn : bs.Nodup)
    (hnb : W.heap[nb]? = some (.cells #[.int .i64 p.1.f0, .int .i64 p.1.f1, .slice A p.1.f2.length cap, .int .i64 p.2] 69 (0, 0))) (hcap : p.1.f2.length ≤ cap) (hC : Kd.C (Kd.int .i64) w A p.1.f2.length p.1.f2) (hw : w.heap.size ≤ nb) (hnew : ∀ b ∈ bs, b ≠ nb)
    (hown : W'.ownsRow w.heap.size 67 1 v' (bs.length + 1) (encs (fun b => .pointer (some ⟨b, 0, none⟩)) bs ++ [.pointer (some ⟨nb, 0, none⟩)])) (hg : W.grownBy W' v.ownBlock) : Own w W' v' (sh ++ [p]) := by
  have keep : ∀ (k : Nat) (cs : Array Value), W.heap[k]? = some (Obj.cells cs 69 (0, 0)) → W'.heap[k]? = some (Obj.cells cs 69 (0, 0)) := fun k cs hk => by
    refine (hg.block k (Array.getElem?_eq_some_iff.1 hk).1 (fun e => ?_)).trans hk
    obtain ⟨cells, hc⟩ := own_typed ho.2.choose_spec.1 k e.symm
    rw [hk] at hc
    cases hc
  refine ⟨bs ++ [nb], Kd.R_of_own (by simpa [encs] using hown) (fun _ _ => trivial), by simp [hl], fun i hi => ?_, fun b hb' => ?_, ?_⟩
  · by_cases h : i < sh.length
    · obtain ⟨A', cap', h1, h2, h3⟩ := hs i h
      have e1 : (bs ++ [nb]).getD i 0 = bs.getD i 0 := by rw [List.getD_eq_getElem?_getD, List.getD_eq_getElem?_getD, List.getElem?_append_left (by omega)]
      have e2 : (sh ++ [p]).getD i zS = sh.getD i zS := by rw [List.getD_eq_getElem?_getD, List.getD_eq_getElem?_getD, List.getElem?_append_left (by omega)]
      rw [e1, e2]
      exact ⟨A', cap', keep _ _ h1, h2, h3⟩
    · obtain rfl : i = sh.length := by simp at hi; omega
      have e1 : (bs ++ [nb]).getD sh.length 0 = nb := by rw [List.getD_eq_getElem?_getD, ← hl]; simp
      have e2 : (sh ++ [p]).getD sh.length zS = p := by rw [List.getD_eq_getElem?_getD]; simp
      rw [e1, e2]
      exact ⟨A, cap, keep _ _ hnb, hcap, hC⟩
  · rcases List.mem_append.1 hb' with hb' | hb'
    · exact hb b hb'
    · rw [List.mem_singleton.1 hb']; exact hw
  · rw [List.nodup_append]
    exact ⟨hn, by simp, fun a ha b hb' => by rw [List.mem_singleton.1 hb']; exact hnew a ha⟩
theorem nodup_getD {bs : List Nat} (hn : bs.Nodup) {i j : Nat} (hi : i < bs.length) (hj : j < bs.length) (hij : i ≠ j) : bs.getD i 0 ≠ bs.getD j 0 := by
  rw [List.getD_eq_getElem?_getD, List.getD_eq_getElem?_getD, List.getElem?_eq_getElem hi, List.getElem?_eq_getElem hj]
  simp only [Option.getD_some]
  intro e
  exact hij ((List.getElem_inj hn).1 e)
/-- The share j moves on by one. -/
theorem Own.grow {w W : World} {v : Value} {bs : List Nat} {sh : Shr} {j : Nat} (ho : Kd.R kP 67 W w.heap.size (fun _ => True) v bs) (hl : bs.length = sh.length) (hs : ∀ i, i < sh.length → ShareIn w W (bs.getD i 0) (sh.getD i zS)) (hb : ∀ b ∈ bs, w.heap.size ≤ b) (hn : bs.Nodup) (hj : j < sh.length) :
    Own w (W.setCell ⟨bs.getD j 0, 3, none⟩ (.int .i64 ((sh.getD j zS).2 + 1))) v (growAt sh j) := by
  obtain ⟨A, cap, h1, h2, h3⟩ := hs j hj
  refine ⟨bs, Kd.R_mono (Kd.R_far (p := ⟨bs.getD j 0, 3, none⟩) (Kd.R_types ho h1 (by decide)) (fun _ hk => hk.2) _) (fun _ _ => trivial), by rw [growAt_len]; exact hl, fun i hi => ?_, hb, hn⟩
  rw [growAt_len] at hi
  by_cases e : i = j
  · subst e
    have eg : (growAt sh i).getD i zS = ((sh.getD i zS).1, (sh.getD i zS).2 + 1) := by
      unfold growAt
      rw [List.getD_eq_getElem?_getD, List.getElem?_set_self hj]
      rfl
    rw [eg]
    exact ⟨A, cap, blk_put h1 3 _ rfl, h2, h3⟩
  · have eg : (growAt sh j).getD i zS = sh.getD i zS := by
      unfold growAt
      rw [List.getD_eq_getElem?_getD, List.getElem?_set_ne (fun h => e h.symm), ← List.getD_eq_getElem?_getD]
    rw [eg]
    obtain ⟨A', cap', g1, g2, g3⟩ := hs i hi
    exact ⟨A', cap', (Below.heap_setCell W ⟨bs.getD j 0, 3, none⟩ _ (bs.getD i 0) (nodup_getD hn (by omega) (by omega) e)).trans g1, g2, g3⟩
theorem mkSh_facts : ∀ (l : List S24), AllV l → GoodS (mkSh l) ∧ sumX (mkSh l) = loS l ∧ sumHi (mkSh l) = hiS l
  | [], _ => ⟨fun p hp => (by simp [mkSh] at hp), rfl, rfl⟩
  | c :: t, h => by
    obtain ⟨i1, i2, i3⟩ := mkSh_facts t (fun c hc => h c (List.mem_cons_of_mem _ hc))
    refine ⟨fun p hp => ?_, ?_, ?_⟩
    · rcases List.mem_cons.1 (show p ∈ (c, c.f0) :: mkSh t from hp) with rfl | hp
      · exact ⟨h c List.mem_cons_self, Int.le_refl _, by simp only; omega⟩
      · exact i1 p hp
    · simp only [sumX, mkSh, loS, List.map_cons, List.sum_cons] at i2 ⊢
      rw [i2]
    · simp only [sumHi, mkSh, hiS, List.map_cons, List.sum_cons] at i3 ⊢
      rw [i3]
/-- What is said of the shares while the total is divided. -/
def Mid (l : List S24) (a1 : Int) (n : Nat) (sh : Shr) : Prop := GoodS sh ∧ sumX sh = loS l + n ∧ sumHi sh = hiS l ∧ fillS ((a1 - loS l).toNat - n) sh = fillS (a1 - loS l).toNat (mkSh l)
theorem shares_of {w W : World} {bs : List Nat} {sh : Shr} (hB : Below w.heap.size w W) (hl : bs.length = sh.length) (hs : ∀ i, i < sh.length → ShareIn w W (bs.getD i 0) (sh.getD i zS)) (hg : GoodS sh) : Shares W bs sh :=
  ⟨hl, fun i hi => by
    obtain ⟨A, cap, h1, h2, h3⟩ := hs i hi
    obtain ⟨e, e1, _⟩ := good_off (hg _ (getD_mem sh i hi))
    exact ⟨⟨A, cap, h1, h2, Kd.C_below h3 hB⟩, by rw [e]; exact e1⟩⟩
theorem Mid.step {l : List S24} {a1 : Int} {n : Nat} {sh : Shr} {j : Nat} (h : Mid l a1 n sh) (hlt : loS l + n < a1) (hj : j < sh.length) (hb : (bestTo sh sh.length).1 = (j : Int)) (hx : (sh.getD j zS).2 < (sh.getD j zS).1.f0 + ((sh.getD j zS).1.f2.length : Int)) : Mid l a1 (n + 1) (growAt sh j) := by
  obtain ⟨h1, h2, h3, h4⟩ := h
  obtain ⟨g1, g2⟩ := growAt_sum sh j hj
  refine ⟨growAt_good sh j h1 hj hx, by rw [g1, h2]; push_cast; omega, by rw [g2, h3], ?_⟩
  rw [← h4]
  have e : (a1 - loS l).toNat - n = ((a1 - loS l).toNat - (n + 1)) + 1 := by omega
  rw [e]
  show _ = fillS _ (growAt sh (bestTo sh sh.length).1.toNat)
  rw [hb, Int.toNat_natCast]
theorem shares_new {w W : World} {bs : List Nat} {sh : Shr} {n : Nat} (hl : bs.length = sh.length) (hs : ∀ i, i < sh.length → ShareIn w W (bs.getD i 0) (sh.getD i zS)) (hn : W.heap.size ≤ n) : ∀ b ∈ bs, b ≠ n := by
  intro b hb
  obtain ⟨i, hi, rfl⟩ := List.mem_iff_getElem.1 hb
  obtain ⟨A, cap, h1, _⟩ := hs i (by omega)
  have h2 := (Array.getElem?_eq_some_iff.1 h1).1
  rw [List.getD_eq_getElem?_getD, List.getElem?_eq_getElem hi] at h2
  simp only [Option.getD_some] at h2
  omega
theorem blk_row {W W' : World} {base g : Nat} {v : Value} {bs : List Nat} {cs : Array Value} (hR : Kd.R kP 67 W base (fun _ => True) v bs) (BK : W.heap[g]? = some (.cells cs 24 (0, 0))) (hg : W.grownBy W' v.ownBlock) : W'.heap[g]? = some (.cells cs 24 (0, 0)) := by
  refine (hg.block g (Array.getElem?_eq_some_iff.1 BK).1 (fun e => ?_)).trans BK
  obtain ⟨cells, hc⟩ := own_typed hR.2.choose_spec.1 g e.symm
  rw [BK] at hc
  cases hc
/-- The world behind the box of a curve, the share's block and the literal of one pointer. -/
def box4 (w2 : World) (g : Nat) (x y : Int) (sl : Value) : World := ((((w2.setCell ⟨g, 0, none⟩ (.int .i64 x)).setCell ⟨g, 1, none⟩ (.int .i64 y)).setCell ⟨g, 2, none⟩ sl).alloc (.cells #[.int .i64 x, .int .i64 y, sl, .int .i64 x] 69)).alloc (.cells #[.pointer (some ⟨w2.heap.size, 0, none⟩)] 67)
theorem box4_facts {wr w2 : World} {g : Nat} {x y : Int} {sl a b c : Value} (BL : Below wr.heap.size wr w2) (GE : wr.heap.size ≤ g) (BK : w2.heap[g]? = some (.cells #[a, b, c] 24 (0, 0))) :
    Below wr.heap.size wr (box4 w2 g x y sl) ∧ (box4 w2 g x y sl).heap[g]? = some (.cells #[.int .i64 x, .int .i64 y, sl] 24 (0, 0)) ∧ (box4 w2 g x y sl).heap[w2.heap.size]? = some (.cells #[.int .i64 x, .int .i64 y, sl, .int .i64 x] 69 (0, 0)) ∧ (box4 w2 g x y sl).heap[w2.heap.size + 1]? = some (.cells #[.pointer (some ⟨w2.heap.size, 0, none⟩)] 67 (0, 0)) := by
  unfold box4
  have h3 := blk_put (blk_put (blk_put BK 0 (.int .i64 x) rfl) 1 (.int .i64 y) rfl) 2 sl rfl
  have hb := below_set (j := 2) (v := sl) (below_set (j := 1) (v := .int .i64 y) (below_set (j := 0) (v := .int .i64 x) BL GE) GE) GE
  have hsz : (((w2.setCell ⟨g, 0, none⟩ (.int .i64 x)).setCell ⟨g, 1, none⟩ (.int .i64 y)).setCell ⟨g, 2, none⟩ sl).heap.size = w2.heap.size := by simp [World.setCell]
  generalize ((w2.setCell ⟨g, 0, none⟩ (.int .i64 x)).setCell ⟨g, 1, none⟩ (.int .i64 y)).setCell ⟨g, 2, none⟩ sl = S at h3 hsz hb
  have n1 := blk_new S (.cells #[.int .i64 x, .int .i64 y, sl, .int .i64 x] 69)
  have n2 := blk_new (S.alloc (.cells #[.int .i64 x, .int .i64 y, sl, .int .i64 x] 69)) (.cells #[.pointer (some ⟨w2.heap.size, 0, none⟩)] 67)
  rw [World.size_alloc] at n2
  rw [hsz] at n1 n2
  exact ⟨below_alloc (below_alloc hb _) _, blk_alloc (blk_alloc h3 _) _, blk_alloc n1 _, n2⟩
theorem Own.grown {w W W' : World} {v u : Value} {sh : Shr} {xs : List Int} (h : Own w W v sh) (hu : Kd.R (Kd.int .i64) 3 W w.heap.size (fun _ => True) u xs) (hg : W.grownBy W' u.ownBlock) : Own w W' v sh := by
  obtain ⟨bs, h1, h2, h3, h4, h5⟩ := h
  refine ⟨bs, Kd.R_mono (Kd.R_grown (Kd.R_bound h1) hg (fun k hk => ?_)) (fun _ _ => trivial), h2, fun i hi => ?_, h4, h5⟩
  · obtain ⟨_, _, _, q, hq, cells, hc⟩ := hk
    refine Kd.R_ne hu hc ?_
    rcases List.mem_cons.1 hq with rfl | hq
    · decide
    · exact absurd hq (List.not_mem_nil)
  · obtain ⟨A, cap, g1, g2, g3⟩ := h3 i hi
    exact ⟨A, cap, blk_grown g1 hg (Kd.R_ne hu g1 (by decide)), g2, g3⟩
/-- What Split makes of a list of valid curves. -/
def splitOk (l : List S24) (a1 : Int) : List Int × Int × Int × Int :=
  if a1 < loS l then ([], 0, 0, 10) else if hiS l < a1 then ([], 0, 0, 10) else
    let sh := fillS (a1 - loS l).toNat (mkSh l)
    (sh.map (fun p => p.2), sumTo sh sh.length, priceTo sh sh.length, 0)
def SplitPost (w : World) (r : List Int × Int × Int × Int) (e : Ending) (w' : World) : Prop := ∃ v : Value, e = .returned (.tuple #[v, .int .i64 r.2.1, .int .i64 r.2.2.1, .int .i64 r.2.2.2]) ∧ Kd.R (Kd.int .i64) 3 w' w.heap.size (fun _ => True) v r.1 ∧ Below w.heap.size w w'
theorem SplitPost.err {w W : World} {r : List Int × Int × Int × Int} (n : Int) (hr : r = ([], 0, 0, n)) (hb : Below w.heap.size w W) : SplitPost w r (.returned (.tuple #[.slice none 0 0, .int .i64 0, .int .i64 0, .int .i64 n])) W := by
  subst hr
  exact ⟨_, rfl, Kd.R_nil _ _ _ _ _, hb⟩
theorem SplitPost.ok {w W : World} {r : List Int × Int × Int × Int} {xs : List Int} {a b n : Int} {v : Value} (hr : r = (xs, a, b, n)) (ho : Kd.R (Kd.int .i64) 3 W w.heap.size (fun _ => True) v xs) (hb : Below w.heap.size w W) : SplitPost w r (.returned (.tuple #[v, .int .i64 a, .int .i64 b, .int .i64 n])) W := by
  subst hr
  exact ⟨_, rfl, ho, hb⟩
set_option maxHeartbeats 8000000 in
set_option maxRecDepth 100000 in
theorem curve_Split.go (A0 : Option Addr) (c0 : Nat) (l0 : List S24) (a1 : Int) (w : World) (hr0 : Kd.C k24 w A0 l0.length l0) (hc0 : l0.length ≤ c0) (hn : l0.length ≤ 8) (h0 : 0 < l0.length) (hv : AllV l0) (R : Ending → World → Prop) (hR : ∀ e w', SplitPost w (splitOk l0 a1) e w' → R e w') :
    Calls Try.prog 19 #[.slice A0 l0.length c0, .int .i64 a1] w R := by
  have hz : ((l0.length : Int) == 0) = false := by rw [beq_eq_false_iff_ne]; omega
  have h8 : ¬ (8 : Int) < (l0.length : Int) := by omega
  have hany : l0.any (fun x => !validC x.f0 x.f1 x.f2) = false := by
    rw [List.any_eq_false]
    intro c hc
    rw [hv c hc]
    decide
  have HR := Aside0.mk hr0
  have HN := Aside0.mk hn
  have HV := Aside0.mk hv
  have HRR := Aside0.mk hR
  have HC := Aside0.mk (containsFunc_curve 57 #[] _ enter57 A0 c0 l0 w hr0 (pred_valid w))
  rw [hany] at HC
  clear hr0 hn hv hany hR
  have hu24 := Try.underlying24
  have hu69 := Try.underlying69
  go_enter Try.func19, Try.ntmps19
  go_wp2_with (go_at_call 56; (with_reducible refine HC.out.mono ?_); rintro e w1 ⟨rfl, hb1⟩; have HB1 := Aside0.mk hb1; clear hb1)
  go_loopg [8, 9, 10, 32] l0.length (fun gg v8 v9 v10 v32 wr => ∃ kk : Nat, kk ≤ l0.length ∧ l0.length - kk ≤ gg ∧ v32 = .int .i64 kk ∧ v9 = .int .i64 (loS (l0.take kk)) ∧ v10 = .int .i64 (hiS (l0.take kk)) ∧ Aside0 (Own w wr v8 (mkSh (l0.take kk))) ∧ Aside0 (Below w.heap.size w wr))
  case atStart => exact ⟨0, Nat.zero_le _, by omega, rfl, by simp [loS], by simp [hiS], ⟨Own.nil w w1⟩, HB1⟩
  case round =>
    obtain ⟨kk, hkk, hg, rfl, rfl, rfl, HO, HB⟩ := hrel
    have hm2 : l0.length ≤ 9223372036854775807 := by have := HN.out; omega
    by_cases hlt : kk < l0.length
    · have hltz : (kk : Int) < (l0.length : Int) := by omega
      obtain ⟨ad, A2, c2, e, hx0, hx1, hx2, hl2, hc2⟩ := at_T24 HR.out (kk : Int) (by omega) hltz
      subst e
      have er : rd_T24 l0 (kk : Int) = l0.getD kk z24 := by unfold rd_T24; rw [Int.toNat_natCast]
      rw [er] at hx0 hx1 hx2 hl2 hc2
      rw [Int.toNat_natCast] at hx0 hx1 hx2
      clear er
      generalize hy : l0.getD kk z24 = y at hx0 hx1 hx2 hl2 hc2
      have HY := Aside0.mk hy
      clear hy
      replace hx0 := (HB.out.cell (World.block_lt_of_cell? w _ hx0)).trans hx0
      replace hx1 := (HB.out.cell (World.block_lt_of_cell? w _ hx1)).trans hx1
      replace hx2 := (HB.out.cell (World.block_lt_of_cell? w _ hx2)).trans hx2
      have HL2 := Aside0.mk hl2
      obtain ⟨bs, o1, o2, o3, o4, o5⟩ := HO.out
      obtain ⟨Av, cv, ev⟩ := Kd.R_slice o1
      subst ev
      have O1 := Aside0.mk o1
      have O2 := Aside0.mk o2
      have O3 := Aside0.mk o3
      have O4 := Aside0.mk o4
      have O5 := Aside0.mk o5
      have HC2 := Aside0.mk hc2
      have hbl : bs.length ≤ 8 := by rw [o2]; simp [mkSh]; have := HN.out; omega
      have HBL := Aside0.mk hbl
      obtain ⟨i0, hi, hiz, his, hib⟩ := info_parts info67
      clear o1 o2 o3 o4 o5 hc2 hbl HO
      go_wp2_with (first | ((with_reducible refine gate_dst (N := 12) rfl ?_); refine box_event ?hg (N := 12) ?hd (cs := #[.int .i64 0, .int .i64 0, .slice none 0 0]) (t := 24) ?hr ?_; (case hd => rfl); (case hg => rfl); (case hr => first | (go_simp; done) | (go_simp; rfl)); intro g12 hg12 w2 hbox hb; have BL2 := Aside0.mk hb; have BK2 := Aside0.mk hbox; have GE2 := Aside0.mk (show wr.heap.size ≤ g12 by rw [hg12]; exact Nat.le_refl _); clear hb hg12; have ha0 : w2.cell? ⟨g12, 0, none⟩ = some (.int .i64 0) := (blk_cell hbox 0).trans rfl; have haf0 := blk_frozen hbox 0; have ha1 : w2.cell? ⟨g12, 1, none⟩ = some (.int .i64 0) := (blk_cell hbox 1).trans rfl; have haf1 := blk_frozen hbox 1; have ha2 : w2.cell? ⟨g12, 2, none⟩ = some (.slice none 0 0) := (blk_cell hbox 2).trans rfl; have haf2 := blk_frozen hbox 2; clear hbox) | (at_builtin; have F := box4_facts (x := y.f0) (y := y.f1) (sl := .slice A2 y.f2.length c2) BL2.out GE2.out BK2.out; unfold box4 at F; obtain ⟨F1, F2, F3, F4⟩ := F; refine wpList_append_own _ rfl (.tmp 36) (.tmp 42) 66 rfl w.heap.size 67 i0 (.pointer none) 1 8 Try.underlying66 hi hiz his hib rfl (by decide) _ bs.length (encs (fun b => .pointer (some ⟨b, 0, none⟩)) bs) rfl ?ow ⟨w2.heap.size + 1, 0, none⟩ 1 1 [.pointer (some ⟨w2.heap.size, 0, none⟩)] rfl rfl ?nw (by simp [Value.oneCell']) (by have := HBL.out; unfold maxLen; omega) (by have := HBL.out; omega) ?bb ?_; (case nw => (intro j u h; rcases j with _ | j; (simp at h; subst h; exact (blk_cell F4 0).trans rfl); (simp at h))); (case bb => exact Nat.le_trans HB.out.size F1.size); (case ow => exact Kd.own_of_R (Kd.R_below O1.out F1)); intro v5 w5 hown hg5 _; have HO5 := Aside0.mk (Own.snoc (p := (y, y.f0)) (Kd.R_below O1.out F1) O2.out (fun i hi => (O3.out i hi).below F1) O4.out O5.out F3 HL2.out HC2.out (Nat.le_trans HB.out.size BL2.out.size) (shares_new O2.out O3.out BL2.out.size) hown hg5); have HB5 := Aside0.mk ((below_then HB.out HB.out.size F1).grown hg5 (Nat.le_trans HB.out.size F1.size) (fun k hk => Kd.R_base O1.out k hk)); have BK5 := Aside0.mk (blk_row (Kd.R_below O1.out F1) F2 hg5); clear hown hg5 F1 F2 F3 F4 O1 O2 O3 O4 O5 ha0 ha1 ha2 haf0 haf1 haf2; have hb0 : w5.cell? ⟨g12, 0, none⟩ = some (.int .i64 y.f0) := (blk_cell BK5.out 0).trans rfl; have hb1 : w5.cell? ⟨g12, 1, none⟩ = some (.int .i64 y.f1) := (blk_cell BK5.out 1).trans rfl; have hb2 : w5.cell? ⟨g12, 2, none⟩ = some (.slice A2 y.f2.length c2) := (blk_cell BK5.out 2).trans rfl))
      have hvy : validC y.f0 y.f1 y.f2 = true := by rw [← HY.out]; exact HV.out _ (by rw [List.getD_eq_getElem?_getD, List.getElem?_eq_getElem hlt]; exact List.getElem_mem hlt)
      have hsb := sums_bound (l0.take kk) (allV_take HV.out kk)
      have hlk : (l0.take kk).length ≤ 8 := by rw [List.length_take]; have := HN.out; omega
      obtain ⟨v1, v2, _, _, v5', _⟩ := validC_parts hvy
      have hss := loS_succ l0 kk hlt
      have hmk := mkSh_succ l0 kk hlt
      rw [HY.out] at hss hmk
      have hw1 : IntKind.i64.wrap (loS (l0.take kk) + y.f0) = loS (l0.take (kk + 1)) := by rw [i64_w, hss.1]; unfold wrap64; omega
      have hw2 : IntKind.i64.wrap (hiS (l0.take kk) + wrap64 (y.f0 + (y.f2.length : Int))) = hiS (l0.take (kk + 1)) := by rw [i64_w, hss.2]; unfold wrap64; omega
      have HMK := Aside0.mk hmk
      clear hvy hsb hlk v1 v2 v5' hss hmk
      go_wp2_with (go_at_call 58; (with_reducible refine (curve_to.calls y.f0 y.f1 _ _ y.f2 _ _ (Kd.C_below HC2.out HB5.out) HL2.out rfl).mono ?_); rintro e w6 ⟨rfl, hb6⟩)
      go_roundg (l0.length - (kk + 1))
      case measure => omega
      case rel => exact ⟨kk + 1, by omega, by omega, by go_num, by rw [← i64_w, hw1], rfl, ⟨by rw [HMK.out]; exact HO5.out.below hb6⟩, ⟨below_then HB5.out HB5.out.size hb6⟩⟩
    · have hltz : ¬ (kk : Int) < (l0.length : Int) := by omega
      obtain rfl : kk = l0.length := by omega
      have HLo := Aside0.mk (show loS (l0.take l0.length) = loS l0 by rw [List.take_length])
      rw [HLo.out]
      have HHi := Aside0.mk (show hiS (l0.take l0.length) = hiS l0 by rw [List.take_length])
      rw [HHi.out]
      have HO2 := Aside0.mk (show Own w wr u8 (mkSh l0) by have h := HO.out; rw [List.take_length] at h; exact h)
      clear HO HLo HHi
      by_cases hlo : a1 < loS l0
      · go_wp2
        refine bodyPost_ret (results_list (rs := [.tmp 4, .tmp 5, .tmp 6, .tmp 7]) rfl (by simp) (.tmp (.tmp (.tmp (.tmp .nil))))) rfl ?_
        exact HRR.out _ _ (SplitPost.err 10 (by unfold splitOk; rw [if_pos (by omega)]) HB.out)
      · by_cases hhi : hiS l0 < a1
        · go_wp2
          refine bodyPost_ret (results_list (rs := [.tmp 4, .tmp 5, .tmp 6, .tmp 7]) rfl (by simp) (.tmp (.tmp (.tmp (.tmp .nil))))) rfl ?_
          exact HRR.out _ _ (SplitPost.err 10 (by unfold splitOk; rw [if_neg (by omega), if_pos (by omega)]) HB.out)
        · go_wp2
          have hsb := sums_bound l0 HV.out
          have HSB := Aside0.mk (show -8388608 ≤ loS l0 ∧ hiS l0 ≤ 8389120 by have := HN.out; omega)
          clear hsb
          have HHL := Aside0.mk (show a1 ≤ hiS l0 by omega)
          go_loopg [9] (a1 - loS l0).toNat (fun gg v9 wr => ∃ (n : Nat) (sh : Shr), v9 = .int .i64 (loS l0 + n) ∧ loS l0 + n ≤ a1 ∧ (a1 - loS l0).toNat - n ≤ gg ∧ Aside0 (Own w wr u8 sh) ∧ Aside0 (Below w.heap.size w wr) ∧ Aside0 (Mid l0 a1 n sh))
          case atStart => exact ⟨0, mkSh l0, by simp, by omega, by omega, HO2, HB, ⟨(mkSh_facts l0 HV.out).1, by rw [(mkSh_facts l0 HV.out).2.1]; simp, (mkSh_facts l0 HV.out).2.2, rfl⟩⟩
          case round =>
            obtain ⟨n, sh, rfl, hle, hg, HO, HB, HM⟩ := hrel
            by_cases hlt : loS l0 + n < a1
            · obtain ⟨bs, o1, o2, o3, o4, o5⟩ := HO.out
              obtain ⟨Av, cv, ev⟩ := Kd.R_slice o1
              subst ev
              obtain ⟨m1, m2, m3, m4⟩ := HM.out
              obtain ⟨j, j1, j2, j3⟩ := best_ok sh m1 (by have := HHL.out; omega)
              have hbest := best_calls Av cv bs sh wr (Kd.R_reads' o1).2.2 (shares_of HB.out o2 o3 m1)
              rw [j2] at hbest
              have hgj := m1 _ (getD_mem sh j j1)
              obtain ⟨q1, q2, _, _, q5, _⟩ := validC_parts hgj.1
              have hjb : j < bs.length := by omega
              obtain ⟨adp, ep, hp⟩ := at_P (Kd.R_reads' o1).2.2 j hjb
              subst ep
              obtain ⟨A3, c3, b1, b2, b3⟩ := o3 j j1
              have HM2 := Aside0.mk (HM.out.step hlt j1 j2 j3)
              have HG := Aside0.mk (fun (W' : World) (hbw : Below wr.heap.size wr W') => Own.grow (Kd.R_below o1 hbw) o2 (fun i hi => (o3 i hi).below hbw) o4 o5 j1)
              have HBE := Aside0.mk hbest
              have HP := Aside0.mk hp
              have HK := Aside0.mk b1
              have HBB := Aside0.mk (o4 _ (show bs.getD j 0 ∈ bs by rw [List.getD_eq_getElem?_getD, List.getElem?_eq_getElem hjb]; exact List.getElem_mem hjb))
              have hwx : IntKind.i64.wrap ((sh.getD j zS).2 + 1) = (sh.getD j zS).2 + 1 := by rw [i64_w]; have := hgj.2.1; unfold wrap64; omega
              have hjz : (j : Int) < (bs.length : Int) := by omega
              generalize bs.getD j 0 = b at b1 HG HP HK HBB
              generalize hxx : (sh.getD j zS).2 = x at b1 HG HK hwx
              clear o1 o2 o3 o4 o5 m1 m2 m3 m4 j2 j3 hbest hgj q1 q2 q5 b1 b2 b3 hp HO HM hxx
              go_wp2_with (go_at_call 59; (with_reducible refine HBE.out.mono ?_); rintro e w2 ⟨rfl, hd⟩; have HD2 := Aside0.mk hd.below; have hp2 := (hd.below.cell (World.block_lt_of_cell? _ _ HP.out)).trans HP.out; have BK2 := blk_below HK.out hd.below; have hx3 : w2.cell? ⟨b, 3, none⟩ = some (.int .i64 x) := (blk_cell BK2 3).trans rfl; have hxf := blk_frozen BK2 3; clear hd BK2)
              go_roundg ((a1 - loS l0).toNat - (n + 1))
              case measure => omega
              case rel =>
                have hsb := HSB.out
                have hhl := HHL.out
                exact ⟨n + 1, growAt sh j, by refine congrArg _ ?_; unfold wrap64; push_cast; omega, by omega, by omega, ⟨HG.out w2 HD2.out⟩, ⟨below_set (below_then HB.out HB.out.size HD2.out) HBB.out⟩, HM2⟩
            · have hne : loS l0 + (n : Int) = a1 := by omega
              have hsp : splitOk l0 a1 = (sh.map (fun p => p.2), sumTo sh sh.length, priceTo sh sh.length, 0) := by
                obtain ⟨_, _, _, m4⟩ := HM.out
                rw [show (a1 - loS l0).toNat - n = 0 by omega] at m4
                unfold splitOk
                rw [if_neg (by omega), if_neg (by omega), ← m4]
                rfl
              have HSP := Aside0.mk hsp
              have HGS := Aside0.mk HM.out.1
              have hshl : sh.length = l0.length := by
                obtain ⟨_, _, _, m4⟩ := HM.out
                have h5 := congrArg List.length m4
                rw [fillS_len, fillS_len] at h5
                rw [h5]
                simp [mkSh]
              clear hsp HM HHL HSB
              subst hne
              obtain ⟨bs, o1, o2, o3, o4, o5⟩ := HO.out
              obtain ⟨Av, cv, ev⟩ := Kd.R_slice o1
              subst ev
              have HR67 := Aside0.mk (Kd.R_reads' o1).2.2
              have HS3 := Aside0.mk o3
              have HL := Aside0.mk o2
              have hbl : bs.length ≤ 8 := by rw [o2, hshl]; exact HN.out
              clear o1 o2 o3 o4 o5
              go_wp2_with ((with_reducible refine gate_dst (N := 77) rfl ?_); refine Kd.R_lit (Kd.int .i64) _ 3 ?hg (N := 77) ?hd (xs := ([] : List Int)) (inner := []) (ok := fun _ => True) (okp := fun _ => True) ?hr ?hp (fun _ hk => hk) trivial (Below.refl _ _) (Nat.le_refl _) (by simp) ?_; (case hd => rfl); (case hg => rfl); (case hr => first | (go_simp; done) | (go_simp; rfl)); (case hp => exact Reps.none _ _); intro v1 w3 ho1 hb1 hg1 hn1; clear hg1 hn1; have HX := Aside0.mk (Kd.R_lower ho1 HB.out.size); have HB3 := Aside0.mk (below_then HB.out HB.out.size hb1); have HO3 := Aside0.mk (HO.out.below hb1); clear ho1 hb1)
              have hml : sh.length ≤ 8 := by omega
              clear HR67 hbl hshl
              go_loopg [13, 14, 15, 80] sh.length (fun gg v13 v14 v15 v80 wr => ∃ kk : Nat, kk ≤ sh.length ∧ sh.length - kk ≤ gg ∧ v80 = .int .i64 kk ∧ v14 = .int .i64 (sumTo sh kk) ∧ v15 = .int .i64 (priceTo sh kk) ∧ Aside0 (Kd.R (Kd.int .i64) 3 wr w.heap.size (fun _ => True) v13 ((sh.take kk).map (fun p => p.2))) ∧ Aside0 (Own w wr (.slice Av bs.length cv) sh) ∧ Aside0 (Below w.heap.size w wr))
              case atStart => exact ⟨0, Nat.zero_le _, by omega, rfl, rfl, rfl, HX, HO3, HB3⟩
              case round =>
                clear HX HO3 HB3 HO HB
                obtain ⟨kk, hkk, hg, rfl, rfl, rfl, HX, HO, HB⟩ := hrel
                obtain ⟨bs', o1, o2, o3, o4, o5⟩ := HO.out
                have hbb := Aside0.mk (show bs'.length = bs.length by rw [HL.out, o2])
                by_cases hlt : kk < sh.length
                · have hltz : (kk : Int) < (bs.length : Int) := by have := HL.out; omega
                  obtain ⟨Ab, cb, eb, _, hCb⟩ := Kd.R_reads o1
                  injection eb with eb1 eb2 eb3
                  subst eb1
                  subst eb3
                  clear eb2
                  obtain ⟨adp, ep, hp⟩ := at_P hCb kk (by have := hbb.out; omega)
                  subst ep
                  obtain ⟨A3, c3, b1, b2, b3⟩ := o3 kk hlt
                  have hgj := HGS.out _ (getD_mem sh kk hlt)
                  have hat := at_good hgj
                  have hpr := prices_good hgj 0
                  have HS1 := Aside0.mk (sumTo_succ sh kk hlt)
                  have HS2 := Aside0.mk (priceTo_succ sh kk hlt)
                  have HS4 := Aside0.mk (xs_succ sh kk hlt)
                  generalize bs'.getD kk 0 = b at hp b1
                  generalize atP (sh.getD kk zS) = av at hat HS1
                  generalize loPr (sh.getD kk zS) = lv at hpr HS2
                  generalize hiPr (sh.getD kk zS) = hv2 at hpr
                  generalize hyy : sh.getD kk zS = y at b1 b2 b3 hat hpr HS4 hgj
                  obtain ⟨cv2, x⟩ := y
                  have HAT := Aside0.mk hat
                  have HPR := Aside0.mk hpr
                  have HB2 := Aside0.mk b2
                  have HB3 := Aside0.mk b3
                  have HBK := Aside0.mk b1
                  have hx3 : wr.cell? ⟨b, 3, none⟩ = some (.int .i64 x) := (blk_cell b1 3).trans rfl
                  have hxl : ((sh.take kk).map (fun p => p.2)).length ≤ 8 := by rw [List.length_map, List.length_take]; omega
                  generalize (sh.take kk).map (fun p => p.2) = xs at HX HS4 hxl
                  obtain ⟨Ax, cx, ex⟩ := Kd.R_slice HX.out
                  subst ex
                  have HXL := Aside0.mk hxl
                  obtain ⟨i3, hi3, hiz3, his3, hib3⟩ := info_parts info3
                  clear hat hpr b1 b2 b3 o1 o2 o3 o4 o5 hyy hgj hxl
                  go_wp2_with (at_builtin; (have F := blk_new wr (.cells #[.int .i64 x] 3)); (refine wpList_append_own _ rfl (.tmp 84) (.tmp 89) 22 rfl w.heap.size 3 i3 (.int .i64 0) 1 8 Try.underlying22 hi3 hiz3 his3 hib3 rfl (by decide) _ xs.length (encs (Value.int .i64) xs) rfl ?ow ⟨wr.heap.size, 0, none⟩ 1 1 [.int .i64 x] rfl rfl ?nw (by simp [Value.oneCell']) (by have := HXL.out; unfold maxLen; omega) (by have := HXL.out; omega) ?bb ?_); (case nw => (intro j u h; rcases j with _ | j; (simp at h; subst h; exact (blk_cell F 0).trans rfl); (simp at h))); (case bb => exact Nat.le_trans HB.out.size (below_alloc (Below.refl _ wr) _).size); (case ow => exact Kd.own_of_R (Kd.R_below HX.out (below_alloc (Below.refl _ wr) _))); intro v5 w5 hown hg5 _)
                  have mixed : Try.prog.follows .mixedOrders = true := by kernel_rfl
                  have hba := below_alloc (Below.refl wr.heap.size wr) (.cells #[.int .i64 x] 3)
                  have HX5 := Aside0.mk (show Kd.R (Kd.int .i64) 3 w5 w.heap.size (fun _ => True) v5 (xs ++ [x]) from Kd.R_of_own (by simpa [encs] using hown) (fun _ _ => trivial))
                  have HO5 := Aside0.mk (Own.grown (HO.out.below hba) (Kd.R_below HX.out hba) hg5)
                  have HB5 := Aside0.mk ((below_then HB.out HB.out.size hba).grown hg5 (Nat.le_trans HB.out.size hba.size) (fun k hk => Kd.R_base HX.out k hk))
                  have HK5 := Aside0.mk (blk_grown (blk_below HBK.out hba) hg5 (Kd.R_ne (Kd.R_below HX.out hba) (blk_below HBK.out hba) (by decide)))
                  clear hba hown hg5 HX HO HB HBK hx3
                  have g0 : ∀ p : Bel w5, p.W.cell? ⟨b, 0, none⟩ = some (.int .i64 cv2.f0) := fun p => p.cell ((blk_cell HK5.out 0).trans rfl)
                  have g1 : ∀ p : Bel w5, p.W.cell? ⟨b, 1, none⟩ = some (.int .i64 cv2.f1) := fun p => p.cell ((blk_cell HK5.out 1).trans rfl)
                  have g2 : ∀ p : Bel w5, p.W.cell? ⟨b, 2, none⟩ = some (.slice A3 cv2.f2.length c3) := fun p => p.cell ((blk_cell HK5.out 2).trans rfl)
                  have g3 : ∀ p : Bel w5, p.W.cell? ⟨b, 3, none⟩ = some (.int .i64 x) := fun p => p.cell ((blk_cell HK5.out 3).trans rfl)
                  refine wp_region_bel (by assumption) (by kernel_rfl) ?_
                  repeat (quiet_step ((go_at_call 61; refine Calls.bel_of (curve_at.calls _ _ _ _ _ _ _ _ (Kd.C_below (Kd.C_below HB3.out HB5.out) (Bel.h _)) HB2.out HAT.out))))
                  refine wpQuiet_nil ?_
                  intro wq hw'
                  obtain ⟨pq, hw''⟩ := hw'
                  have hq := Bel.h pq
                  rw [← hw''] at hq
                  clear hw'' pq
                  have HO6 := Aside0.mk (HO5.out.below hq)
                  have HX6 := Aside0.mk (Kd.R_below HX5.out hq)
                  have HB6 := Aside0.mk (below_then HB5.out HB5.out.size hq)
                  have HK6 := Aside0.mk (blk_below HK5.out hq)
                  clear hq g0 g1 g2 g3 HO5 HX5 HB5 HK5
                  have g0 : ∀ p : Bel wq, p.W.cell? ⟨b, 0, none⟩ = some (.int .i64 cv2.f0) := fun p => p.cell ((blk_cell HK6.out 0).trans rfl)
                  have g1 : ∀ p : Bel wq, p.W.cell? ⟨b, 1, none⟩ = some (.int .i64 cv2.f1) := fun p => p.cell ((blk_cell HK6.out 1).trans rfl)
                  have g2 : ∀ p : Bel wq, p.W.cell? ⟨b, 2, none⟩ = some (.slice A3 cv2.f2.length c3) := fun p => p.cell ((blk_cell HK6.out 2).trans rfl)
                  have g3 : ∀ p : Bel wq, p.W.cell? ⟨b, 3, none⟩ = some (.int .i64 x) := fun p => p.cell ((blk_cell HK6.out 3).trans rfl)
                  go_wp2
                  refine wp_region_bel (by assumption) (by kernel_rfl) ?_
                  repeat (quiet_step ((go_at_call 62; refine Calls.bel_of (curve_prices.calls _ _ _ _ _ _ _ _ _ _ (Kd.C_below (Kd.C_below HB3.out HB6.out) (Bel.h _)) HB2.out HPR.out))))
                  refine wpQuiet_nil ?_
                  intro wq hw'
                  obtain ⟨pq, hw''⟩ := hw'
                  have hq := Bel.h pq
                  rw [← hw''] at hq
                  clear hw'' pq
                  have HO7 := Aside0.mk (HO6.out.below hq)
                  have HX7 := Aside0.mk (Kd.R_below HX6.out hq)
                  have HB7 := Aside0.mk (below_then HB6.out HB6.out.size hq)
                  clear hq g0 g1 g2 g3 HO6 HX6 HB6 HK6
                  go_wp2
                  all_goals
                    go_roundg (sh.length - (kk + 1))
                    case measure => omega
                    case rel => exact ⟨kk + 1, by omega, by omega, by go_num, by rw [HS1.out, i64_w], by rw [HS2.out]; first | done | (refine congrArg _ ?_; omega), ⟨by rw [HS4.out]; exact HX7.out⟩, HO7, HB7⟩
                · obtain rfl : kk = sh.length := by omega
                  have hltz : ¬ ((sh.length : Nat) : Int) < (bs.length : Int) := by have := HL.out; omega
                  go_wp2
                  refine bodyPost_ret (results_list (rs := [.tmp 4, .tmp 5, .tmp 6, .tmp 7]) rfl (by simp) (.tmp (.tmp (.tmp (.tmp .nil))))) rfl ?_
                  exact HRR.out _ _ (SplitPost.ok HSP.out (by have h := HX.out; rw [List.take_length] at h; exact h) HB.out)
def splitR (l : List S24) (a1 : Int) : List Int × Int × Int × Int :=
  if 8 < l.length then ([], 0, 0, 3) else if l.length = 0 then ([], 0, 0, 2) else if l.any (fun x => !validC x.f0 x.f1 x.f2) = true then ([], 0, 0, 2) else splitOk l a1
def curve_Split.f (k : Nat) (l : List S24) (a1 : Int) : Option (List Int × Int × Int × Int) := some (splitR l a1)
theorem curve_Split.mono : ∀ a0 a1 k, LeO (curve_Split.f k a0 a1) (curve_Split.f (k + 1) a0 a1) := fun _ _ _ => LeO.refl _
set_option maxHeartbeats 4000000 in
set_option maxRecDepth 100000 in
theorem curve_Split.all (A0 : Option Addr) (c0 : Nat) (l0 : List S24) (a1 : Int) (w : World) (hr0 : Kd.C k24 w A0 l0.length l0) (hc0 : l0.length ≤ c0) (R : Ending → World → Prop) (hR : ∀ e w', SplitPost w (splitR l0 a1) e w' → R e w') :
    Calls Try.prog 19 #[.slice A0 l0.length c0, .int .i64 a1] w R := by
  have HRR := Aside0.mk hR
  clear hR
  by_cases h8 : 8 < l0.length
  · have h8z : (8 : Int) < (l0.length : Int) := by omega
    have e1 : splitR l0 a1 = ([], 0, 0, 3) := by unfold splitR; rw [if_pos h8]
    have E1 := Aside0.mk e1
    clear h8 e1
    go_enter Try.func19, Try.ntmps19
    go_wp2
    refine bodyPost_ret (results_list (rs := [.tmp 4, .tmp 5, .tmp 6, .tmp 7]) rfl (by simp) (.tmp (.tmp (.tmp (.tmp .nil))))) rfl ?_
    exact HRR.out _ _ (SplitPost.err 3 E1.out (Below.refl _ w))
  · have h8z : ¬ (8 : Int) < (l0.length : Int) := by omega
    by_cases h0 : l0.length = 0
    · have hz : ((l0.length : Int) == 0) = true := by rw [beq_iff_eq]; omega
      have e1 : splitR l0 a1 = ([], 0, 0, 2) := by unfold splitR; rw [if_neg h8, if_pos h0]
      have E1 := Aside0.mk e1
      clear h8 e1 h0
      go_enter Try.func19, Try.ntmps19
      go_wp2
      refine bodyPost_ret (results_list (rs := [.tmp 4, .tmp 5, .tmp 6, .tmp 7]) rfl (by simp) (.tmp (.tmp (.tmp (.tmp .nil))))) rfl ?_
      exact HRR.out _ _ (SplitPost.err 2 E1.out (Below.refl _ w))
    · by_cases ha : l0.any (fun x => !validC x.f0 x.f1 x.f2) = true
      · have hz : ((l0.length : Int) == 0) = false := by rw [beq_eq_false_iff_ne]; omega
        have e1 : splitR l0 a1 = ([], 0, 0, 2) := by unfold splitR; rw [if_neg h8, if_neg h0, if_pos ha]
        have E1 := Aside0.mk e1
        have HC := Aside0.mk (containsFunc_curve 57 #[] _ enter57 A0 c0 l0 w hr0 (pred_valid w))
        rw [ha] at HC
        clear h8 e1 h0 ha
        go_enter Try.func19, Try.ntmps19
        go_wp2_with (go_at_call 56; (with_reducible refine HC.out.mono ?_); rintro e w1 ⟨rfl, hb1⟩; have HB1 := Aside0.mk hb1; clear hb1)
        refine bodyPost_ret (results_list (rs := [.tmp 4, .tmp 5, .tmp 6, .tmp 7]) rfl (by simp) (.tmp (.tmp (.tmp (.tmp .nil))))) rfl ?_
        exact HRR.out _ _ (SplitPost.err 2 E1.out HB1.out)
      · have hv : AllV l0 := by
          intro c hc
          have ha2 : l0.any (fun x => !validC x.f0 x.f1 x.f2) = false := Bool.eq_false_iff.mpr ha
          rw [List.any_eq_false] at ha2
          simpa using ha2 c hc
        refine curve_Split.go A0 c0 l0 a1 w hr0 hc0 (by omega) (by omega) hv R (fun e w' hp => HRR.out e w' ?_)
        unfold splitR
        rw [if_neg h8, if_neg h0, if_neg ha]
        exact hp
set_option maxHeartbeats 4000000 in
set_option maxRecDepth 100000 in
theorem curve_Split.calls (k : Nat) (A0 : Option Addr) (c0 : Nat) (l0 : List S24) (a1 : Int) (r1 : List Int) (r2 r3 r4 : Int) (w : World) (hr0 : Kd.C k24 w A0 l0.length l0) (hc0 : l0.length ≤ c0) (h : curve_Split.f k l0 a1 = some (r1, r2, r3, r4)) :
    Calls Try.prog 19 #[.slice A0 l0.length c0, .int .i64 a1] w fun e w' => ∃ v_ : Value, e = .returned (.tuple #[v_, .int .i64 r2, .int .i64 r3, .int .i64 r4]) ∧ Kd.R (Kd.int .i64) 3 w' w.heap.size (fun _ => True) v_ r1 ∧ Below w.heap.size w w' := by
  have hr : splitR l0 a1 = (r1, r2, r3, r4) := Option.some.inj h
  have key : ∀ e w', SplitPost w (splitR l0 a1) e w' → ∃ v_ : Value, e = .returned (.tuple #[v_, .int .i64 r2, .int .i64 r3, .int .i64 r4]) ∧ Kd.R (Kd.int .i64) 3 w' w.heap.size (fun _ => True) v_ r1 ∧ Below w.heap.size w w' := by
    intro e w' hp
    rw [hr] at hp
    exact hp
  exact curve_Split.all A0 c0 l0 a1 w hr0 hc0 _ key
end Go.Proofs.Ytingjpcgehgiiaa.Pr
end
section
namespace Go.Proofs.Ytingjpcgehgiiaa.Pr
open Go.RowKit Go.Proofs.YtingjpcgehgiiaaW.PrintWords Go.Proofs.YtingjpcgehgiiaaW.PrintLast Go.Proofs.YtingjpcgehgiiaaW.PrintMore
set_option linter.unusedVariables false
set_option linter.unusedSimpArgs false
/-- A sum over the first numbers. -/
def sm (f : Nat → Int) : Nat → Int
  | 0 => 0
  | n + 1 => sm f n + f n
theorem sm_shift (f : Nat → Int) : ∀ n, sm f (n + 1) = f 0 + sm (fun i => f (i + 1)) n
  | 0 => by simp [sm]
  | n + 1 => by
    rw [sm, sm_shift f n]
    conv => rhs; rw [sm]
    omega
theorem sm_le {f g : Nat → Int} : ∀ {n : Nat}, (∀ i, i < n → f i ≤ g i) → sm f n ≤ sm g n
  | 0, _ => by simp [sm]
  | n + 1, h => by
    have := sm_le (n := n) fun i hi => h i (by omega)
    have := h n (by omega)
    simp only [sm]
    omega
theorem sm_lt {f g : Nat → Int} : ∀ {n : Nat}, (∀ i, i < n → f i ≤ g i) → (∃ i, i < n ∧ f i < g i) → sm f n < sm g n
  | 0, _, ⟨i, hi, _⟩ => by omega
  | n + 1, h, ⟨i, hi, hlt⟩ => by
    have h1 := sm_le (n := n) fun i hi => h i (by omega)
    have h2 := h n (by omega)
    simp only [sm]
    by_cases e : i = n
    · subst e; omega
    · have := sm_lt (n := n) (fun i hi => h i (by omega)) ⟨i, by omega, hlt⟩
      omega
theorem sm_congr {f g : Nat → Int} {n : Nat} (h : ∀ i, i < n → f i = g i) : sm f n = sm g n := by
  have h1 := sm_le (n := n) (f := f) (g := g) fun i hi => by rw [h i hi]; exact Int.le_refl _
  have h2 := sm_le (n := n) (f := g) (g := f) fun i hi => by rw [h i hi]; exact Int.le_refl _
  omega
theorem sm_same {f g : Nat → Int} {n : Nat} (h : ∀ i, i < n → f i ≤ g i) (he : sm f n = sm g n) (i : Nat) (hi : i < n) : f i = g i := by
  by_cases e : f i = g i
  · exact e
  · have := sm_lt h ⟨i, hi, by have := h i hi; omega⟩
    omega
theorem sm_sub (f g : Nat → Int) : ∀ n, sm (fun i => f i - g i) n = sm f n - sm g n
  | 0 => by simp [sm]
  | n + 1 => by
    simp only [sm]
    rw [sm_sub f g n]
    omega
theorem sm_mul (p : Int) (f : Nat → Int) : ∀ n, sm (fun i => p * f i) n = p * sm f n
  | 0 => by simp [sm]
  | n + 1 => by
    simp only [sm]
    rw [sm_mul p f n, Int.mul_add]
theorem sm_bound {f : Nat → Int} {B : Int} : ∀ {n : Nat}, (∀ i, i < n → -B ≤ f i ∧ f i ≤ B) → -(B * (n : Int)) ≤ sm f n ∧ sm f n ≤ B * (n : Int)
  | 0, _ => by simp [sm]
  | n + 1, h => by
    have h1 := sm_bound (n := n) fun i hi => h i (by omega)
    have h2 := h n (by omega)
    simp only [sm]
    push_cast
    rw [Int.mul_add, Int.mul_one]
    omega
theorem sumX_sm : ∀ sh : Shr, sumX sh = sm (fun i => (sh.getD i zS).2) sh.length
  | [] => rfl
  | p :: t => by
    have e : sumX (p :: t) = p.2 + sumX t := by simp [sumX]
    rw [e, sumX_sm t, List.length_cons, sm_shift]
    rfl
/-- The slopes that are taken, and those that are not. -/
def tk (p : S24 × Int) : List Int := p.1.f2.take (p.2 - p.1.f0).toNat
def dr (p : S24 × Int) : List Int := p.1.f2.drop (p.2 - p.1.f0).toNat
/-- What is taken is not above what is not, and below it if that is in a later curve. -/
def Inv (sh : Shr) : Prop := ∀ i j, i < sh.length → j < sh.length → ∀ s ∈ tk (sh.getD i zS), ∀ t ∈ dr (sh.getD j zS), s ≤ t ∧ (i < j → s < t)
theorem bestTo_min (sh : Shr) : ∀ k, ((bestTo sh k).1 = -1 ∧ ∀ i, i < k → (nextAt sh i).2 = false) ∨ ∃ j, j < k ∧ bestTo sh k = ((j : Int), (nextAt sh j).1) ∧ (nextAt sh j).2 = true ∧ ∀ i, i < k → (nextAt sh i).2 = true → (nextAt sh j).1 ≤ (nextAt sh i).1 ∧ (j < i → (nextAt sh j).1 < (nextAt sh i).1)
  | 0 => .inl ⟨rfl, fun i hi => absurd hi (Nat.not_lt_zero _)⟩
  | k + 1 => by
    have ih := bestTo_min sh k
    have e : bestTo sh (k + 1) = bestStep k (bestTo sh k) (nextAt sh k) := rfl
    rw [e]
    unfold bestStep
    by_cases hc : ((nextAt sh k).2 && (decide ((bestTo sh k).1 < 0) || decide ((nextAt sh k).1 ≤ (bestTo sh k).2))) = true
    · rw [if_pos hc]
      rw [Bool.and_eq_true, Bool.or_eq_true, decide_eq_true_eq, decide_eq_true_eq] at hc
      obtain ⟨h1, h2⟩ := hc
      refine .inr ⟨k, by omega, rfl, h1, fun i hi hn => ?_⟩
      by_cases ei : i = k
      · subst ei; exact ⟨Int.le_refl _, fun h => absurd h (Nat.lt_irrefl _)⟩
      · refine ⟨?_, fun h => by omega⟩
        rcases ih with ⟨m1, m2⟩ | ⟨j, j1, j2, j3, j4⟩
        · have := m2 i (by omega)
          rw [hn] at this
          cases this
        · have h3 := (j4 i (by omega) hn).1
          rw [j2] at h2
          simp only at h2
          omega
    · rw [if_neg hc]
      rw [Bool.and_eq_true, Bool.or_eq_true, decide_eq_true_eq, decide_eq_true_eq] at hc
      rcases ih with ⟨m1, m2⟩ | ⟨j, j1, j2, j3, j4⟩
      · refine .inl ⟨m1, fun i hi => ?_⟩
        by_cases ei : i = k
        · subst ei
          rw [Bool.eq_false_iff]
          exact fun h => hc ⟨h, .inl (by omega)⟩
        · exact m2 i (by omega)
      · refine .inr ⟨j, by omega, j2, j3, fun i hi hn => ?_⟩
        by_cases ei : i = k
        · subst ei
          have : ¬(nextAt sh i).1 ≤ (nextAt sh j).1 := fun h => hc ⟨hn, .inr (by rw [j2]; exact h)⟩
          exact ⟨by omega, fun _ => by omega⟩
        · exact j4 i (by omega) hn
theorem next_good {p : S24 × Int} (h : GoodC p) (hx : p.2 < p.1.f0 + (p.1.f2.length : Int)) : nextR p.1 p.2 = (rd p.1.f2 (p.2 - p.1.f0), true) := by
  obtain ⟨e, h1, h2⟩ := good_off h
  unfold nextR
  rw [e, if_pos (by omega)]
theorem good_vc {p : S24 × Int} (h : GoodC p) : Vc p.1 := h.1
theorem good_in {p : S24 × Int} (h : GoodC p) : inC p.1 p.2 := ⟨h.2.1, h.2.2⟩
/-- The next slope is the least of those that are not taken. -/
theorem dr_head {p : S24 × Int} (h : GoodC p) {t : Int} (ht : t ∈ dr p) : p.2 < p.1.f0 + (p.1.f2.length : Int) ∧ rd p.1.f2 (p.2 - p.1.f0) ≤ t := by
  obtain ⟨e, h1, h2⟩ := good_off h
  obtain ⟨_, _, _, _, _, hs, _⟩ := vc_parts (good_vc h)
  unfold dr at ht
  obtain ⟨i, i1, i2, rfl⟩ := mem_drop_rd ht
  obtain ⟨k, hk⟩ := Int.eq_ofNat_of_zero_le h1
  rw [hk, Int.toNat_natCast] at i1
  refine ⟨by omega, ?_⟩
  rw [hk]
  exact sorted_rd hs i1 i2
theorem best_least {sh : Shr} (hg : GoodS sh) {j : Nat} (hj : j < sh.length) (hb : (bestTo sh sh.length).1 = (j : Int)) : ∀ i, i < sh.length → ∀ t ∈ dr (sh.getD i zS), rd (sh.getD j zS).1.f2 ((sh.getD j zS).2 - (sh.getD j zS).1.f0) ≤ t ∧ (j < i → rd (sh.getD j zS).1.f2 ((sh.getD j zS).2 - (sh.getD j zS).1.f0) < t) := by
  intro i hi t ht
  have gi := hg _ (getD_mem sh i hi)
  have gj := hg _ (getD_mem sh j hj)
  obtain ⟨d1, d2⟩ := dr_head gi ht
  rcases bestTo_min sh sh.length with ⟨m1, m2⟩ | ⟨j', j1, j2, j3, j4⟩
  · omega
  · have ej : j' = j := by rw [j2] at hb; simp only at hb; omega
    subst ej
    have ni := next_good gi d1
    have hnj : (nextAt sh j').1 = rd (sh.getD j' zS).1.f2 ((sh.getD j' zS).2 - (sh.getD j' zS).1.f0) := by
      have h5 : (nextR (sh.getD j' zS).1 (sh.getD j' zS).2).2 = true := j3
      rw [next_more gj, decide_eq_true_eq] at h5
      show (nextR (sh.getD j' zS).1 (sh.getD j' zS).2).1 = _
      rw [next_good gj h5]
    have hni : (nextAt sh i).1 = rd (sh.getD i zS).1.f2 ((sh.getD i zS).2 - (sh.getD i zS).1.f0) := by
      show (nextR (sh.getD i zS).1 (sh.getD i zS).2).1 = _
      rw [ni]
    have hni2 : (nextAt sh i).2 = true := by
      show (nextR (sh.getD i zS).1 (sh.getD i zS).2).2 = _
      rw [ni]
    obtain ⟨q1, q2⟩ := j4 i hi hni2
    rw [hnj, hni] at q1 q2
    exact ⟨by omega, fun h => by have := q2 h; omega⟩
theorem growAt_get (sh : Shr) (j i : Nat) (hj : j < sh.length) : (growAt sh j).getD i zS = if i = j then ((sh.getD j zS).1, (sh.getD j zS).2 + 1) else sh.getD i zS := by
  unfold growAt
  simp only [List.getD_eq_getElem?_getD]
  rw [List.getElem?_set]
  by_cases e : i = j
  · subst e
    rw [if_pos rfl, if_pos rfl, if_pos hj]
    rfl
  · rw [if_neg (fun h => e h.symm), if_neg e]
theorem growAt_fst (sh : Shr) (j : Nat) (hj : j < sh.length) : (growAt sh j).map Prod.fst = sh.map Prod.fst := by
  unfold growAt
  rw [List.map_set]
  apply List.ext_getElem?
  intro i
  rw [List.getElem?_set]
  by_cases e : j = i
  · subst e
    rw [if_pos rfl, if_pos (by simpa using hj), List.getElem?_map, List.getD_eq_getElem?_getD, List.getElem?_eq_getElem hj]
    rfl
  · rw [if_neg e]
theorem inv_step {sh : Shr} (hg : GoodS sh) (hI : Inv sh) {j : Nat} (hj : j < sh.length) (hb : (bestTo sh sh.length).1 = (j : Int)) (hx : (sh.getD j zS).2 < (sh.getD j zS).1.f0 + ((sh.getD j zS).1.f2.length : Int)) : Inv (growAt sh j) := by
  intro i i' hi hi' s hs t ht
  rw [growAt_len] at hi hi'
  have gj := hg _ (getD_mem sh j hj)
  obtain ⟨_, o1, o2⟩ := good_off gj
  obtain ⟨k, hk⟩ := Int.eq_ofNat_of_zero_le o1
  have ht' : t ∈ dr (sh.getD i' zS) := by
    rw [growAt_get sh j i' hj] at ht
    by_cases e : i' = j
    · subst e
      rw [if_pos rfl] at ht
      unfold dr at ht ⊢
      simp only at ht
      obtain ⟨m, m1, m2, rfl⟩ := mem_drop_rd ht
      exact rd_mem_drop (by omega) m2
    · rw [if_neg e] at ht
      exact ht
  have hsor : s ∈ tk (sh.getD i zS) ∨ (i = j ∧ s = rd (sh.getD j zS).1.f2 ((sh.getD j zS).2 - (sh.getD j zS).1.f0)) := by
    rw [growAt_get sh j i hj] at hs
    by_cases e : i = j
    · subst e
      rw [if_pos rfl] at hs
      unfold tk at hs ⊢
      simp only at hs
      obtain ⟨m, m1, m2, rfl⟩ := mem_take_rd hs
      by_cases hm : (m : Int) = (sh.getD i zS).2 - (sh.getD i zS).1.f0
      · exact .inr ⟨rfl, by rw [hm]⟩
      · exact .inl (rd_mem_take (by omega) m2)
    · rw [if_neg e] at hs
      exact .inl hs
  rcases hsor with h | ⟨rfl, rfl⟩
  · exact hI i i' hi hi' s h t ht'
  · exact best_least hg hj hb i' hi' t ht'
theorem fill_spec : ∀ (n : Nat) (sh : Shr), GoodS sh → Inv sh → sumX sh + (n : Int) ≤ sumHi sh → GoodS (fillS n sh) ∧ Inv (fillS n sh) ∧ sumX (fillS n sh) = sumX sh + (n : Int) ∧ (fillS n sh).map Prod.fst = sh.map Prod.fst
  | 0, sh, hg, hI, _ => ⟨hg, hI, by simp [fillS], rfl⟩
  | n + 1, sh, hg, hI, hs => by
    obtain ⟨j, j1, j2, j3⟩ := best_ok sh hg (by omega)
    have e : (bestTo sh sh.length).1.toNat = j := by omega
    have hg2 := growAt_good sh j hg j1 j3
    obtain ⟨g1, g2⟩ := growAt_sum sh j j1
    obtain ⟨a1, a2, a3, a4⟩ := fill_spec n (growAt sh j) hg2 (inv_step hg hI j1 j2 j3) (by omega)
    have ef : fillS (n + 1) sh = fillS n (growAt sh j) := by rw [fillS, e]
    rw [ef]
    exact ⟨a1, a2, by omega, by rw [a4, growAt_fst sh j j1]⟩
theorem mkSh_inv (l : List S24) : Inv (mkSh l) := by
  intro i j hi hj s hs
  unfold mkSh at hs hi
  rw [List.length_map] at hi
  unfold tk at hs
  rw [List.getD_eq_getElem?_getD, List.getElem?_map, List.getElem?_eq_getElem hi] at hs
  simp at hs
theorem mkSh_sums (l : List S24) : sumX (mkSh l) = loS l ∧ sumHi (mkSh l) = hiS l := by
  unfold sumX sumHi mkSh loS hiS
  rw [List.map_map, List.map_map]
  exact ⟨rfl, rfl⟩
theorem mkSh_good' {l : List S24} (h : AllV l) : GoodS (mkSh l) := by
  intro p hp
  unfold mkSh at hp
  obtain ⟨c, hc, rfl⟩ := List.mem_map.1 hp
  exact ⟨h c hc, by simp, by simp; omega⟩
/-- What the division is. -/
structure Div (l : List S24) (a1 : Int) (sh : Shr) : Prop where
  fst : sh.map Prod.fst = l
  good : GoodS sh
  inv : Inv sh
  sum : sumX sh = a1
theorem split_div {l : List S24} {a1 : Int} (h : AllV l) (h1 : loS l ≤ a1) (h2 : a1 ≤ hiS l) : Div l a1 (fillS (a1 - loS l).toNat (mkSh l)) := by
  obtain ⟨s1, s2⟩ := mkSh_sums l
  obtain ⟨a, b, c, d⟩ := fill_spec (a1 - loS l).toNat (mkSh l) (mkSh_good' h) (mkSh_inv l) (by omega)
  refine ⟨?_, a, b, by omega⟩
  rw [d]
  unfold mkSh
  rw [List.map_map]
  exact List.map_id _
theorem Div.len {l : List S24} {a1 : Int} {sh : Shr} (h : Div l a1 sh) : sh.length = l.length := by
  have := congrArg List.length h.fst
  rwa [List.length_map] at this
theorem Div.get {l : List S24} {a1 : Int} {sh : Shr} (h : Div l a1 sh) (i : Nat) (hi : i < l.length) : (sh.getD i zS).1 = l.getD i z24 := by
  have hl := h.len
  rw [← h.fst, List.getD_eq_getElem?_getD, List.getD_eq_getElem?_getD, List.getElem?_map, List.getElem?_eq_getElem (show i < sh.length by omega)]
  rfl
/-- The price. -/
theorem price_spec (sh : Shr) : ∀ k, k ≤ sh.length → (∀ i, i < k → loPr (sh.getD i zS) ≤ priceTo sh k) ∧ -1048576 ≤ priceTo sh k ∧ (priceTo sh k = -1048576 ∨ ∃ i, i < k ∧ priceTo sh k = loPr (sh.getD i zS) ∧ 0 < (sh.getD i zS).2 - (sh.getD i zS).1.f0)
  | 0, _ => ⟨fun i hi => by omega, by simp [priceTo], .inl (by simp [priceTo])⟩
  | k + 1, h => by
    obtain ⟨h1, h2, h3⟩ := price_spec sh k (by omega)
    rw [priceTo_succ sh k (by omega)]
    refine ⟨fun i hi => ?_, by omega, ?_⟩
    · by_cases e : i = k
      · subst e; omega
      · have := h1 i (by omega); omega
    · by_cases hm : loPr (sh.getD k zS) ≤ priceTo sh k
      · rw [show max (priceTo sh k) (loPr (sh.getD k zS)) = priceTo sh k by omega]
        rcases h3 with h3 | ⟨i, i1, i2⟩
        · exact .inl h3
        · exact .inr ⟨i, by omega, i2⟩
      · rw [show max (priceTo sh k) (loPr (sh.getD k zS)) = loPr (sh.getD k zS) by omega]
        refine .inr ⟨k, by omega, rfl, ?_⟩
        by_cases hp : 0 < (sh.getD k zS).2 - (sh.getD k zS).1.f0
        · exact hp
        · unfold loPr at hm
          rw [if_neg hp] at hm
          omega
theorem tk_le {p : S24 × Int} (h : GoodC p) {s : Int} (hs : s ∈ tk p) : s ≤ loPr p := by
  obtain ⟨_, _, _, _, _, hso, _⟩ := vc_parts (good_vc h)
  obtain ⟨_, o1, o2⟩ := good_off h
  unfold tk at hs
  obtain ⟨i, i1, i2, rfl⟩ := mem_take_rd hs
  unfold loPr
  rw [if_pos (by omega)]
  have e : p.2 - p.1.f0 - 1 = (((p.2 - p.1.f0).toNat - 1 : Nat) : Int) := by omega
  rw [e]
  exact sorted_rd hso (by omega) (by omega)
theorem lo_mem {p : S24 × Int} (h : GoodC p) (h0 : 0 < p.2 - p.1.f0) : loPr p ∈ tk p := by
  obtain ⟨_, o1, o2⟩ := good_off h
  unfold loPr tk
  rw [if_pos h0]
  have e : p.2 - p.1.f0 - 1 = (((p.2 - p.1.f0).toNat - 1 : Nat) : Int) := by omega
  rw [e]
  exact rd_mem_take (by omega) (by omega)
theorem Div.price {l : List S24} {a1 : Int} {sh : Shr} (h : Div l a1 sh) : -1048576 ≤ priceTo sh sh.length ∧ priceTo sh sh.length ≤ 1048576 ∧ ∀ i, i < sh.length → (∀ s ∈ tk (sh.getD i zS), s ≤ priceTo sh sh.length) ∧ (∀ t ∈ dr (sh.getD i zS), priceTo sh sh.length ≤ t) := by
  obtain ⟨h1, h2, h3⟩ := price_spec sh sh.length (Nat.le_refl _)
  refine ⟨h2, ?_, fun i hi => ⟨fun s hs => ?_, fun t ht => ?_⟩⟩
  · rcases h3 with h3 | ⟨i, i1, i2, i3⟩
    · omega
    · have g := h.good _ (getD_mem sh i i1)
      obtain ⟨_, _, _, _, _, _, hb⟩ := vc_parts (good_vc g)
      have := hb _ (List.mem_of_mem_take (lo_mem g i3))
      omega
  · have := h1 i hi
    have := tk_le (h.good _ (getD_mem sh i hi)) hs
    omega
  · rcases h3 with h3 | ⟨i', i1, i2, i3⟩
    · have g := h.good _ (getD_mem sh i hi)
      obtain ⟨_, _, _, _, _, _, hb⟩ := vc_parts (good_vc g)
      have := hb _ (List.mem_of_mem_drop ht)
      omega
    · have g := h.good _ (getD_mem sh i' i1)
      have := (h.inv i' i i1 hi _ (lo_mem g i3) t ht).1
      omega
/-- Each share is where its curve is greatest. -/
theorem Div.tight {l : List S24} {a1 : Int} {sh : Shr} (h : Div l a1 sh) (i : Nat) (hi : i < sh.length) : priceTo sh sh.length * (sh.getD i zS).2 - valC (sh.getD i zS).1 (sh.getD i zS).2 = gC (sh.getD i zS).1 (priceTo sh sh.length) := by
  obtain ⟨_, _, h3⟩ := h.price
  obtain ⟨p1, p2⟩ := h3 i hi
  exact young_eq (good_in (h.good _ (getD_mem sh i hi))) p1 p2
theorem Div.cost {l : List S24} {a1 : Int} {sh : Shr} (h : Div l a1 sh) (h8 : sh.length ≤ 8) : ∀ k, k ≤ sh.length → sumTo sh k = sm (fun i => valC (sh.getD i zS).1 (sh.getD i zS).2) k
  | 0, _ => by simp [sumTo, sm]
  | k + 1, hk => by
    have ih := h.cost h8 k (by omega)
    have g := h.good _ (getD_mem sh k (by omega))
    have b := sm_bound (f := fun i => valC (sh.getD i zS).1 (sh.getD i zS).2) (B := 1099578736640) (n := k) fun i hi => by
      have := val_bound (good_vc (h.good _ (getD_mem sh i (by omega)))) (sh.getD i zS).2
      exact this
    have b2 := val_bound (good_vc g) (sh.getD k zS).2
    rw [sumTo_succ sh k (by omega), ih, atP_val g, sm]
    unfold wrap64
    omega
/-- No other division costs less; one that costs asx much comes later. -/
theorem Div.best {l : List S24} {a1 : Int} {sh : Shr} (h : Div l a1 sh) {y : Nat → Int} (hin : ∀ i, i < l.length → inC (l.getD i z24) (y i)) (hy : sm y l.length = a1) :
    sm (fun i => valC (sh.getD i zS).1 (sh.getD i zS).2) sh.length ≤ sm (fun i => valC (l.getD i z24) (y i)) l.length ∧
    (sm (fun i => valC (l.getD i z24) (y i)) l.length = sm (fun i => valC (sh.getD i zS).1 (sh.getD i zS).2) sh.length → ∀ i, i < l.length → (∀ j, j < i → (sh.getD j zS).2 = y j) → (sh.getD i zS).2 ≠ y i → (sh.getD i zS).2 < y i) := by
  have hl := h.len
  have hX := h.sum
  rw [sumX_sm, hl] at hX
  have hyo : ∀ i, i < l.length → priceTo sh sh.length * y i - valC (l.getD i z24) (y i) ≤ gC (l.getD i z24) (priceTo sh sh.length) := fun i hi => young _ (hin i hi)
  have hti : ∀ i, i < l.length → priceTo sh sh.length * (sh.getD i zS).2 - valC (sh.getD i zS).1 (sh.getD i zS).2 = gC (l.getD i z24) (priceTo sh sh.length) := fun i hi => by rw [h.tight i (by omega), h.get i hi]
  have s1 := sm_le hyo
  have s2 := sm_congr hti
  rw [sm_sub, sm_mul, hy] at s1
  rw [sm_sub, sm_mul, hX] at s2
  rw [hl]
  refine ⟨by omega, fun he i hi hb hne => ?_⟩
  have hsame := sm_same hyo (by rw [sm_sub, sm_mul, hy]; omega)
  by_cases hlt : (sh.getD i zS).2 < y i
  · exact hlt
  · exfalso
    have : ∃ i', i < i' ∧ i' < l.length ∧ (sh.getD i' zS).2 < y i' := by
      apply Classical.byContradiction
      intro hno
      have := sm_lt (f := y) (g := fun i => (sh.getD i zS).2) (n := l.length) (fun j hj => by
        by_cases e1 : j < i
        · have := hb j e1
          omega
        · by_cases e2 : j = i
          · subst e2; omega
          · apply Classical.byContradiction
            intro hh
            exact hno ⟨j, by omega, hj, by omega⟩) ⟨i, hi, by omega⟩
      omega
    obtain ⟨i', h1, h2, h3⟩ := this
    have gi := h.good _ (getD_mem sh i (by omega))
    have gi' := h.good _ (getD_mem sh i' (by omega))
    have c1 := young_conv (hin i hi) (hsame i hi)
    have c2 := young_conv (hin i' h2) (hsame i' h2)
    have yi := hin i hi
    have yi' := hin i' h2
    rw [← h.get i hi] at c1 yi
    rw [← h.get i' h2] at c2 yi'
    obtain ⟨yi1, yi2⟩ := yi
    obtain ⟨yj1, yj2⟩ := yi'
    obtain ⟨_, gi1, gi2⟩ := gi
    obtain ⟨_, gj1, gj2⟩ := gi'
    have a1 : rd (sh.getD i zS).1.f2 (((y i - (sh.getD i zS).1.f0).toNat : Nat) : Int) ∈ tk (sh.getD i zS) := rd_mem_take (by omega) (by omega)
    have a2 := c1.2 _ (rd_mem_drop (l := (sh.getD i zS).1.f2) (k := (y i - (sh.getD i zS).1.f0).toNat) (i := (y i - (sh.getD i zS).1.f0).toNat) (Nat.le_refl _) (by omega))
    have b1 : rd (sh.getD i' zS).1.f2 ((((sh.getD i' zS).2 - (sh.getD i' zS).1.f0).toNat : Nat) : Int) ∈ dr (sh.getD i' zS) := rd_mem_drop (Nat.le_refl _) (by omega)
    have b2 := c2.1 _ (rd_mem_take (l := (sh.getD i' zS).1.f2) (k := (y i' - (sh.getD i' zS).1.f0).toNat) (i := ((sh.getD i' zS).2 - (sh.getD i' zS).1.f0).toNat) (by omega) (by omega))
    have := (h.inv i i' (by omega) (by omega) _ a1 _ b1).2 h1
    omega
end Go.Proofs.Ytingjpcgehgiiaa.Pr
end
section
namespace Go.Proofs.Ytingjpcgehgiiaa.Pr
open Go.RowKit Go.Proofs.YtingjpcgehgiiaaW.PrintWords Go.Proofs.YtingjpcgehgiiaaW.PrintLast Go.Proofs.YtingjpcgehgiiaaW.PrintMore
set_option linter.unusedVariables false
set_option linter.unusedSimpArgs false
/-- The join of a list. -/
def sufC : List S24 → S24
  | [] => z24
  | [c] => c
  | c :: d :: t => joinC c (sufC (d :: t))
theorem suf_wd : ∀ {l : List S24}, l ≠ [] → (∀ c ∈ l, Vc c) → Wd l.length (sufC l)
  | [], h, _ => absurd rfl h
  | [c], _, h => wd_vc (h c List.mem_cons_self)
  | c :: d :: t, _, h => by
    have ih := suf_wd (l := d :: t) (by simp) fun x hx => h x (List.mem_cons_of_mem _ hx)
    have := wd_join (wd_vc (h c List.mem_cons_self)) ih
    rw [show (c :: d :: t).length = 1 + (d :: t).length by simp; omega]
    exact this
def xsS (sh : Shr) : List Int := sh.map fun p => p.2
def costS (sh : Shr) : Int := (sh.map fun p => valC p.1 p.2).sum
def InS (sh : Shr) : Prop := ∀ p ∈ sh, inC p.1 p.2
theorem sumX_cons (p : S24 × Int) (t : Shr) : sumX (p :: t) = p.2 + sumX t := by unfold sumX; rw [List.map_cons, List.sum_cons]
theorem costS_cons (p : S24 × Int) (t : Shr) : costS (p :: t) = valC p.1 p.2 + costS t := by unfold costS; rw [List.map_cons, List.sum_cons]
theorem suf_le : ∀ {sh : Shr}, sh ≠ [] → InS sh → inC (sufC (sh.map Prod.fst)) (sumX sh) ∧ valC (sufC (sh.map Prod.fst)) (sumX sh) ≤ costS sh
  | [], h, _ => absurd rfl h
  | [p], _, h => by
    have hp := h p List.mem_cons_self
    have e1 : sumX [p] = p.2 := by rw [sumX_cons]; simp [sumX]
    have e2 : costS [p] = valC p.1 p.2 := by rw [costS_cons]; simp [costS]
    rw [e1, e2]
    exact ⟨hp, Int.le_refl _⟩
  | p :: q :: t, _, h => by
    have hp := h p List.mem_cons_self
    obtain ⟨i1, i2⟩ := suf_le (sh := q :: t) (by simp) fun x hx => h x (List.mem_cons_of_mem _ hx)
    have e : sufC ((p :: q :: t).map Prod.fst) = joinC p.1 (sufC ((q :: t).map Prod.fst)) := rfl
    rw [e, sumX_cons, costS_cons]
    have hj := join_le hp i1
    exact ⟨join_in hp i1, by omega⟩
theorem suf_sort : ∀ {l : List S24}, l ≠ [] → (∀ c ∈ l, sortedI c.f2 = true) → sortedI (sufC l).f2 = true
  | [], h, _ => absurd rfl h
  | [c], _, h => h c List.mem_cons_self
  | c :: d :: t, _, _ => sortL_sorted _
theorem suf_met : ∀ {l : List S24}, l ≠ [] → (∀ c ∈ l, sortedI c.f2 = true) → ∀ z, inC (sufC l) z → ∃ sh : Shr, sh.map Prod.fst = l ∧ InS sh ∧ sumX sh = z ∧ costS sh = valC (sufC l) z
  | [], h, _, _, _ => absurd rfl h
  | [c], _, h, z, hz => ⟨[(c, z)], rfl, fun p hp => by rw [List.mem_singleton] at hp; subst hp; exact hz, by simp [sumX], by simp [costS]; rfl⟩
  | c :: d :: t, _, h, z, hz => by
    have hs := suf_sort (l := d :: t) (by simp) fun x hx => h x (List.mem_cons_of_mem _ hx)
    obtain ⟨x, x1, x2, x3⟩ := join_met (h c List.mem_cons_self) hs hz
    obtain ⟨sh, s1, s2, s3, s4⟩ := suf_met (l := d :: t) (by simp) (fun x hx => h x (List.mem_cons_of_mem _ hx)) (z - x) x2
    refine ⟨(c, x) :: sh, by rw [List.map_cons, s1], fun p hp => ?_, ?_, ?_⟩
    · rcases List.mem_cons.1 hp with rfl | hp
      · exact x1
      · exact s2 p hp
    · rw [sumX_cons, s3]
      show x + (z - x) = z
      omega
    · rw [costS_cons, s4]
      exact x3
/-- Earlier in the order of dictionaries. -/
def LexLt : List Int → List Int → Prop
  | a :: s, b :: t => a < b ∨ (a = b ∧ LexLt s t)
  | _, _ => False
/-- The first of the best divisions. -/
structure Fst (sh : Shr) : Prop where
  ins : InS sh
  best : ∀ sh' : Shr, sh'.map Prod.fst = sh.map Prod.fst → InS sh' → sumX sh' = sumX sh → costS sh ≤ costS sh' ∧ (costS sh' = costS sh → ¬LexLt (xsS sh') (xsS sh))
theorem Fst.tail {p : S24 × Int} {t : Shr} (h : Fst (p :: t)) : Fst t := by
  refine ⟨fun q hq => h.ins q (List.mem_cons_of_mem _ hq), fun sh' e1 e2 e3 => ?_⟩
  obtain ⟨b1, b2⟩ := h.best (p :: sh') (by rw [List.map_cons, List.map_cons, e1]) (fun q hq => by
    rcases List.mem_cons.1 hq with rfl | hq
    · exact h.ins _ List.mem_cons_self
    · exact e2 q hq) (by rw [sumX_cons, sumX_cons, e3])
  rw [costS_cons, costS_cons] at b1 b2
  exact ⟨by omega, fun hc hl => b2 (by omega) (.inr ⟨rfl, hl⟩)⟩
theorem Fst.val {sh : Shr} (h : Fst sh) (hne : sh ≠ []) (hs : ∀ p ∈ sh, sortedI p.1.f2 = true) : inC (sufC (sh.map Prod.fst)) (sumX sh) ∧ costS sh = valC (sufC (sh.map Prod.fst)) (sumX sh) := by
  obtain ⟨i1, i2⟩ := suf_le hne h.ins
  obtain ⟨sh', s1, s2, s3, s4⟩ := suf_met (l := sh.map Prod.fst) (by simpa using hne) (fun c hc => by
    obtain ⟨p, hp, rfl⟩ := List.mem_map.1 hc
    exact hs p hp) (sumX sh) i1
  have := (h.best sh' s1 s2 s3).1
  exact ⟨i1, by omega⟩
/-- What a search from the curve's beginning finds. -/
theorem Fst.here {p q : S24 × Int} {t : Shr} (h : Fst (p :: q :: t)) (hs : ∀ r ∈ p :: q :: t, sortedI r.1.f2 = true) :
    (inC (sufC ((q :: t).map Prod.fst)) (sumX (p :: q :: t) - p.2) ∧ valC p.1 p.2 + valC (sufC ((q :: t).map Prod.fst)) (sumX (p :: q :: t) - p.2) = valC (sufC ((p :: q :: t).map Prod.fst)) (sumX (p :: q :: t))) ∧
    ∀ y, inC p.1 y → y < p.2 → ¬(inC (sufC ((q :: t).map Prod.fst)) (sumX (p :: q :: t) - y) ∧ valC p.1 y + valC (sufC ((q :: t).map Prod.fst)) (sumX (p :: q :: t) - y) = valC (sufC ((p :: q :: t).map Prod.fst)) (sumX (p :: q :: t))) := by
  obtain ⟨v1, v2⟩ := h.val (by simp) hs
  obtain ⟨w1, w2⟩ := h.tail.val (by simp) (fun r hr => hs r (List.mem_cons_of_mem _ hr))
  have e : sumX (p :: q :: t) - p.2 = sumX (q :: t) := by rw [sumX_cons]; omega
  refine ⟨by rw [e, ← v2, costS_cons, w2]; exact ⟨w1, rfl⟩, fun y hy hlt ⟨y1, y2⟩ => ?_⟩
  obtain ⟨sh', s1, s2, s3, s4⟩ := suf_met (l := (q :: t).map Prod.fst) (by simp) (fun c hc => by
    obtain ⟨r, hr, rfl⟩ := List.mem_map.1 hc
    exact hs r (List.mem_cons_of_mem _ hr)) _ y1
  have b := (h.best ((p.1, y) :: sh') (by rw [List.map_cons, List.map_cons, s1]) (fun r hr => by
    rcases List.mem_cons.1 hr with rfl | hr
    · exact hy
    · exact s2 r hr) (by rw [sumX_cons, s3]; show y + (sumX (p :: q :: t) - y) = _; omega)).2
  refine b ?_ (.inl hlt)
  rw [costS_cons, s4, v2]
  exact y2
theorem costS_sm : ∀ sh : Shr, costS sh = sm (fun i => valC (sh.getD i zS).1 (sh.getD i zS).2) sh.length
  | [] => rfl
  | p :: t => by
    rw [costS_cons, costS_sm t, List.length_cons, sm_shift]
    rfl
theorem lex_at : ∀ {a b : List Int}, LexLt a b → ∃ i, i < a.length ∧ i < b.length ∧ (∀ j, j < i → a.getD j 0 = b.getD j 0) ∧ a.getD i 0 < b.getD i 0
  | [], _, h => absurd h (by simp [LexLt])
  | _ :: _, [], h => absurd h (by simp [LexLt])
  | x :: s, y :: t, h => by
    rcases h with h | ⟨rfl, h⟩
    · exact ⟨0, by simp, by simp, fun j hj => absurd hj (by omega), h⟩
    · obtain ⟨i, h1, h2, h3, h4⟩ := lex_at h
      refine ⟨i + 1, by simp; omega, by simp; omega, fun j hj => ?_, by simpa using h4⟩
      rcases j with _ | j
      · rfl
      · simpa using h3 j (by omega)
theorem xs_get (sh : Shr) (i : Nat) (hi : i < sh.length) : (xsS sh).getD i 0 = (sh.getD i zS).2 := by
  unfold xsS
  rw [List.getD_eq_getElem?_getD, List.getD_eq_getElem?_getD, List.getElem?_map, List.getElem?_eq_getElem hi]
  rfl
theorem Div.fst_best {l : List S24} {a1 : Int} {sh : Shr} (h : Div l a1 sh) : Fst sh := by
  have hl := h.len
  refine ⟨fun p hp => good_in (h.good p hp), fun sh' e1 e2 e3 => ?_⟩
  have el : sh'.length = l.length := by
    have := congrArg List.length e1
    rw [List.length_map, List.length_map] at this
    omega
  have eg : ∀ i, i < l.length → (sh'.getD i zS).1 = l.getD i z24 := fun i hi => by
    have e := e1.trans h.fst
    rw [← e, List.getD_eq_getElem?_getD, List.getD_eq_getElem?_getD, List.getElem?_map, List.getElem?_eq_getElem (show i < sh'.length by omega)]
    rfl
  obtain ⟨b1, b2⟩ := h.best (y := fun i => (sh'.getD i zS).2) (fun i hi => by rw [← eg i hi]; exact e2 _ (getD_mem sh' i (by omega))) (by rw [← el, ← sumX_sm, e3, h.sum])
  have ec : sm (fun i => valC (l.getD i z24) ((sh'.getD i zS).2)) l.length = costS sh' := by
    rw [costS_sm, el]
    exact sm_congr fun i hi => by rw [eg i hi]
  rw [ec, ← costS_sm] at b1 b2
  refine ⟨b1, fun hc hlex => ?_⟩
  obtain ⟨i, i1, i2, i3, i4⟩ := lex_at hlex
  have li : i < sh'.length := by simpa [xsS] using i1
  rw [xs_get sh' i li, xs_get sh i (by omega)] at i4
  have := b2 hc i (by omega) (fun j hj => by
    have := i3 j hj
    rw [xs_get sh' j (by omega), xs_get sh j (by omega)] at this
    exact this.symm) (by omega)
  omega
end Go.Proofs.Ytingjpcgehgiiaa.Pr
end
section
namespace Go.Proofs.Ytingjpcgehgiiaa.Pr
open Go.RowKit Go.Proofs.YtingjpcgehgiiaaW.PrintWords Go.Proofs.YtingjpcgehgiiaaW.PrintLast Go.Proofs.YtingjpcgehgiiaaW.PrintMore
attribute [local go_sem] max2_int min2_int max_two min_two max_three min_three max_four min_four   -- for this text's walks alone
set_option linter.unusedVariables false
set_option linter.unusedSimpArgs false
mutual
def curve_Meet.j0 : Nat → Bool → Int → Int → List Int → Int → Int → List Int → Option (Int × Int × Int × Int)
 | 0, _, _, _, _, _, _, _ => none
 | k + 1, x23, x524000, x524001, x524002, x525000, x525001, x525002 => if x23 = true then (some (0, 0, 0, 2)) else ((curve_to.f x524000 x524001 x524002).bind fun t527 => ((curve_to.f x525000 x525001 x525002).bind fun t528 => (if (mx x524000 x525000) > (mn t527 t528) then (some (0, 0, 0, 6)) else (curve_Meet.l0 k (mn t527 t528) (mx x524000 x525000) (mx x524000 x525000) x524000 x524001 x524002 x525000 x525001 x525002))))
def curve_Meet.l0 : Nat → Int → Int → Int → Int → Int → List Int → Int → Int → List Int → Option (Int × Int × Int × Int)
 | 0, _, _, _, _, _, _, _, _, _ => none
 | k + 1, x9, x10, x11, x524000, x524001, x524002, x525000, x525001, x525002 => if x11 ≤ x9 then ((curve_at.f x524000 x524001 x524002 x11).bind fun t529 => ((curve_at.f x525000 x525001 x525002 x11).bind fun t530 => ((curve_at.f x524000 x524001 x524002 x10).bind fun t531 => ((curve_at.f x525000 x525001 x525002 x10).bind fun t532 => (if (wrap64 (t529 + t530)) < (wrap64 (t531 + t532)) then (curve_Meet.l0 k x9 x11 (wrap64 (x11 + 1)) x524000 x524001 x524002 x525000 x525001 x525002) else (curve_Meet.l0 k x9 x10 (wrap64 (x11 + 1)) x524000 x524001 x524002 x525000 x525001 x525002)))))) else ((curve_prices.f k x524000 x524001 x524002 x10).bind fun bt533 => ((curve_prices.f k x525000 x525001 x525002 x10).bind fun bt535 => ((curve_at.f x524000 x524001 x524002 x10).bind fun t537 => ((curve_at.f x525000 x525001 x525002 x10).bind fun t538 => (some (wrap64 (t537 + t538), x10, mx bt533.1 (wrap64 (-bt535.2)), 0))))))
end
def curve_Meet.f (k : Nat) (a0_0 : Int) (a0_1 : Int) (l0_2 : List Int) (a1_0 : Int) (a1_1 : Int) (l1_2 : List Int) : Option (Int × Int × Int × Int) := (curve_Valid.f a0_0 a0_1 l0_2).bind fun t525 => (if t525 = true then ((curve_Valid.f a1_0 a1_1 l1_2).bind fun t526 => (curve_Meet.j0 k (!t526) a0_0 a0_1 l0_2 a1_0 a1_1 l1_2)) else (curve_Meet.j0 k true a0_0 a0_1 l0_2 a1_0 a1_1 l1_2))
theorem curve_Meet.mono_l : ∀ k, (∀ y0 y1 y2 y3 y4 y5 y6, LeO (curve_Meet.j0 k y0 y1 y2 y3 y4 y5 y6) (curve_Meet.j0 (k + 1) y0 y1 y2 y3 y4 y5 y6)) ∧ (∀ y0 y1 y2 y3 y4 y5 y6 y7 y8, LeO (curve_Meet.l0 k y0 y1 y2 y3 y4 y5 y6 y7 y8) (curve_Meet.l0 (k + 1) y0 y1 y2 y3 y4 y5 y6 y7 y8))
 | 0 => ⟨fun _ _ _ _ _ _ _ r h => by simp [curve_Meet.j0] at h, fun _ _ _ _ _ _ _ _ _ r h => by simp [curve_Meet.l0] at h⟩
 | k + 1 => by
  obtain ⟨ih0, ih1⟩ := curve_Meet.mono_l k; refine ⟨?_, ?_⟩
  · intro y0 y1 y2 y3 y4 y5 y6; unfold curve_Meet.j0
    repeat' first
    | (with_reducible exact ih0 _ _ _ _ _ _ _)
    | (with_reducible exact ih1 _ _ _ _ _ _ _ _ _)
    | (with_reducible exact curve_prices.mono _ _ _ _ _)
    | (with_reducible exact LeO.refl _)
    | (with_reducible exact LeO.none _)
    | (with_reducible refine LeO.ite ?_ ?_)
    | (with_reducible refine LeO.bind ?_ (fun _ => ?_))
    | exact ih0 _ _ _ _ _ _ _
    | exact ih1 _ _ _ _ _ _ _ _ _
    | exact curve_prices.mono _ _ _ _ _
    | exact LeO.none _
    | refine LeO.ite ?_ ?_
    | refine LeO.bind ?_ (fun _ => ?_)
  · intro y0 y1 y2 y3 y4 y5 y6 y7 y8; unfold curve_Meet.l0
    repeat' first
    | (with_reducible exact ih0 _ _ _ _ _ _ _)
    | (with_reducible exact ih1 _ _ _ _ _ _ _ _ _)
    | (with_reducible exact curve_prices.mono _ _ _ _ _)
    | (with_reducible exact LeO.refl _)
    | (with_reducible exact LeO.none _)
    | (with_reducible refine LeO.ite ?_ ?_)
    | (with_reducible refine LeO.bind ?_ (fun _ => ?_))
    | exact ih0 _ _ _ _ _ _ _
    | exact ih1 _ _ _ _ _ _ _ _ _
    | exact curve_prices.mono _ _ _ _ _
    | exact LeO.none _
    | refine LeO.ite ?_ ?_
    | refine LeO.bind ?_ (fun _ => ?_)
theorem curve_Meet.mono : ∀ a0 a1 a2 a3 a4 a5 k, LeO (curve_Meet.f k a0 a1 a2 a3 a4 a5) (curve_Meet.f (k + 1) a0 a1 a2 a3 a4 a5) := by
 intro a0 a1 a2 a3 a4 a5 k; obtain ⟨ih0, ih1⟩ := curve_Meet.mono_l k; unfold curve_Meet.f
 repeat' first
  | (with_reducible exact ih0 _ _ _ _ _ _ _)
  | (with_reducible exact ih1 _ _ _ _ _ _ _ _ _)
  | (with_reducible exact curve_prices.mono _ _ _ _ _)
  | (with_reducible exact LeO.refl _)
  | (with_reducible exact LeO.none _)
  | (with_reducible refine LeO.ite ?_ ?_)
  | (with_reducible refine LeO.bind ?_ (fun _ => ?_))
  | exact ih0 _ _ _ _ _ _ _
  | exact ih1 _ _ _ _ _ _ _ _ _
  | exact curve_prices.mono _ _ _ _ _
  | exact LeO.none _
  | refine LeO.ite ?_ ?_
  | refine LeO.bind ?_ (fun _ => ?_)
def curve_Meet.T3 : Bool × List (List Nat × List Nat) := (true, [([], []), ([0], [0]), ([], []), ([2], [2]), ([1, 3], [1, 3]), ([], []), ([5], [5]), ([], []), ([7, 6], [7]), ([6, 8], [6, 8]), ([4, 8, 0, 1, 2, 3, 4], [4]), ([9, 10, 0, 1, 2, 3, 4, 5, 6, 7, 8, 9, 10], [9])])
def curve_Meet.B3 : List Nat := [0, 1, 0, 4, 15, 0, 32, 0, 224, 480, 511, 2047]
theorem curve_Meet.tab3 : rtab .any (opsOf Try.f25 3) = curve_Meet.T3 := by kernel_rfl
theorem curve_Meet.bits3 : waitsOk curve_Meet.T3.2 curve_Meet.B3 = true := by kernel_rfl
def curve_Meet.T10 : Bool × List (List Nat × List Nat) := (true, [([], []), ([], []), ([0, 1], [0, 1]), ([], []), ([], []), ([3, 4, 2], [3, 4]), ([2, 5], [2, 5]), ([], []), ([], []), ([7, 8, 5], [7, 8]), ([], []), ([], []), ([10, 11, 9], [10, 11]), ([9, 12], [9, 12]), ([6, 13], [6, 13])])
def curve_Meet.B10 : List Nat := [0, 0, 3, 0, 0, 31, 63, 0, 0, 447, 0, 0, 4031, 8127, 16383]
theorem curve_Meet.tab10 : rtab .any (opsOf Try.f25 10) = curve_Meet.T10 := by kernel_rfl
theorem curve_Meet.bits10 : waitsOk curve_Meet.T10.2 curve_Meet.B10 = true := by kernel_rfl
def curve_Meet.T14 : Bool × List (List Nat × List Nat) := (true, [([], []), ([], []), ([0, 1], [0, 1]), ([], []), ([], []), ([3, 4, 2], [3, 4]), ([2, 5], [2, 5]), ([], []), ([], []), ([], []), ([9], [9]), ([8, 10], [8, 10]), ([6, 5, 0, 1, 2, 3, 4, 5, 6], [6]), ([7, 12, 0, 1, 2, 3, 4, 5, 6, 7, 12], [7]), ([11, 13, 0, 1, 2, 3, 4, 5, 6, 7, 8, 9, 10, 11, 12, 13], [11]), ([14, 0, 1, 2, 3, 4, 5, 6, 7, 8, 9, 10, 11, 12, 13, 14], [])])
def curve_Meet.B14 : List Nat := [0, 0, 3, 0, 0, 31, 63, 0, 0, 0, 512, 1792, 127, 4351, 16383, 32767]
theorem curve_Meet.tab14 : rtab .any (opsOf Try.f25 14) = curve_Meet.T14 := by kernel_rfl
theorem curve_Meet.bits14 : waitsOk curve_Meet.T14.2 curve_Meet.B14 = true := by kernel_rfl
set_option maxHeartbeats 8000000 in
set_option maxRecDepth 100000 in
theorem curve_Meet.calls (k : Nat) (a0_0 : Int) (a0_1 : Int) (A0_2 : Option Addr) (c0_2 : Nat) (l0_2 : List Int) (a1_0 : Int) (a1_1 : Int) (A1_2 : Option Addr) (c1_2 : Nat) (l1_2 : List Int) (r1 : Int) (r2 : Int) (r3 : Int) (r4 : Int) (w : World) (hr0_2 : Kd.C (Kd.int .i64) w A0_2 l0_2.length l0_2) (hc0_2 : l0_2.length ≤ c0_2) (hr1_2 : Kd.C (Kd.int .i64) w A1_2 l1_2.length l1_2) (hc1_2 : l1_2.length ≤ c1_2) (h : curve_Meet.f k a0_0 a0_1 l0_2 a1_0 a1_1 l1_2 = some (r1, r2, r3, r4)) :
 Calls Try.prog 25 #[.agg #[.int .i64 a0_0, .int .i64 a0_1, .slice A0_2 l0_2.length c0_2], .agg #[.int .i64 a1_0, .int .i64 a1_1, .slice A1_2 l1_2.length c1_2]] w fun e w' => e = .returned (.tuple #[.int .i64 r1, .int .i64 r2, .int .i64 r3, .int .i64 r4]) ∧ Below w.heap.size w w' := by
 have hu24 := Try.underlying24; have HR0_2 := Aside0.mk hr0_2; have HC0_2 := Aside0.mk hc0_2; clear hr0_2 hc0_2; have HR1_2 := Aside0.mk hr1_2; have HC1_2 := Aside0.mk hc1_2; clear hr1_2 hc1_2; have HB := Aside0.mk (Below.refl w.heap.size w); have H : ((curve_Valid.f a0_0 a0_1 l0_2).bind fun t525 => (if t525 = true then ((curve_Valid.f a1_0 a1_1 l1_2).bind fun t526 => (curve_Meet.j0 k (!t526) a0_0 a0_1 l0_2 a1_0 a1_1 l1_2)) else (curve_Meet.j0 k true a0_0 a0_1 l0_2 a1_0 a1_1 l1_2))) = some (r1, r2, r3, r4) := h; clear h; have HC3 := Aside0.mk H; clear H; go_enter Try.func25, Try.ntmps25
 go_upto_region 1 with (first | ((with_reducible refine gate_dst (N := 2) rfl ?_); refine box_event ?hg (N := 2) ?hd (cs := #[.int .i64 a0_0, .int .i64 a0_1, .slice A0_2 l0_2.length c0_2]) (t := 24) ?hr ?_; (case hd => rfl); (case hg => rfl); (case hr => first | (go_simp; done) | (go_simp; rfl)); intro gb523 hg w4 hbox hb; have BK523 := Aside0.mk (hbox); have GW523 := Aside0.mk ((by rw [hg]; exact (below_size (nC HB)) : w.heap.size ≤ gb523)); have GE523 := Aside0.mk ((by rw [hg]; exact (below_size (nC HB)) : w.heap.size ≤ gb523)); replace HB := Aside0.mk (below_step (nC HB) hb); clear hb hbox hg) | ((with_reducible refine gate_dst (N := 3) rfl ?_); refine box_event ?hg (N := 3) ?hd (cs := #[.int .i64 a1_0, .int .i64 a1_1, .slice A1_2 l1_2.length c1_2]) (t := 24) ?hr ?_; (case hd => rfl); (case hg => rfl); (case hr => first | (go_simp; done) | (go_simp; rfl)); intro gb524 hg w5 hbox hb; have BK524 := Aside0.mk (hbox); have GW524 := Aside0.mk ((by rw [hg]; exact (below_size (nC HB)) : w.heap.size ≤ gb524)); have GE524 := Aside0.mk ((by rw [hg]; exact (below_size (nC HB)) : w.heap.size ≤ gb524)); replace HB := Aside0.mk (below_step (nC HB) hb); have NB523_524 := Aside0.mk ((by rw [hg]; exact Nat.ne_of_lt (blk_lt (nK BK523)) : gb523 ≠ gb524)); have NB524_523 := Aside0.mk ((by rw [hg]; exact Nat.ne_of_gt (blk_lt (nK BK523)) : gb524 ≠ gb523)); replace BK523 := Aside0.mk (nB BK523 hb); clear hb hbox hg))
 (try simp only [Act.put, zs1, zs2, zs3]); go_cut [23] (fun v23 wc => ∃ (kq : Nat) (x23_2 : Bool), v23 = .bool x23_2 ∧ Aside0 (curve_Meet.j0 kq x23_2 a0_0 a0_1 l0_2 a1_0 a1_1 l1_2 = some (r1, r2, r3, r4)) ∧ Aside0 (kq ≤ k) ∧ Aside0 (wc.heap[gb523]? = some (.cells #[.int .i64 a0_0, .int .i64 a0_1, (.slice A0_2 l0_2.length c0_2)] 24 (0, 0))) ∧ Aside0 (wc.heap[gb524]? = some (.cells #[.int .i64 a1_0, .int .i64 a1_1, (.slice A1_2 l1_2.length c1_2)] 24 (0, 0))) ∧ Aside0 (Below w.heap.size w wc))
 case first =>
  have H := HC3.out; clear HC3; replace H := Option.bind_eq_some_iff.mp H; obtain ⟨t525, A60, H⟩ := H; replace H : (if t525 = true then ((curve_Valid.f a1_0 a1_1 l1_2).bind fun t526 => (curve_Meet.j0 k (!t526) a0_0 a0_1 l0_2 a1_0 a1_1 l1_2)) else (curve_Meet.j0 k true a0_0 a0_1 l0_2 a1_0 a1_1 l1_2)) = some (r1, r2, r3, r4) := H; have A6 := Aside0.mk A60; clear A60
  by_cases c7 : t525 = true
  · subst c7; replace H : ((curve_Valid.f a1_0 a1_1 l1_2).bind fun t526 => (curve_Meet.j0 k (!t526) a0_0 a0_1 l0_2 a1_0 a1_1 l1_2)) = some (r1, r2, r3, r4) := by rw [if_pos rfl] at H; exact H
    replace H := Option.bind_eq_some_iff.mp H; obtain ⟨t526, A80, H⟩ := H; replace H : (curve_Meet.j0 k (!t526) a0_0 a0_1 l0_2 a1_0 a1_1 l1_2) = some (r1, r2, r3, r4) := H; have A8 := Aside0.mk A80; clear A80; have H' := Aside0.mk H; clear H; have hnb9 := NB523_524.out; have hnc9 := NB524_523.out; obtain ⟨hcz10_0, hcz10_1, hcz10_2, hfz10_0, hfz10_1, hfz10_2⟩ := cz3 BK523; go_wp2_with (first | ((with_reducible refine gate_callee (f := 16) rfl ?_); refine gL (some 17) Try.func16 #[.agg #[.int .i64 a0_0, .int .i64 a0_1, .slice A0_2 l0_2.length c0_2]] ?_; (with_reducible refine (curve_Valid.calls a0_0 a0_1 _ _ l0_2 true _ ?side1 ?side2 A6.out).mono ?_); (case side1 => exact nS HR0_2 HB); (case side2 => exact HC0_2.out); rintro e w11 ⟨rfl, hb⟩; refine ⟨_, rfl, ?_⟩; replace BK523 := Aside0.mk (nB BK523 hb); replace BK524 := Aside0.mk (nB BK524 hb); replace HB := Aside0.mk (below_step (nC HB) hb); (try clear hb); (try clear hb2); (try clear hk); (try clear hi); obtain ⟨hcz12_0, hcz12_1, hcz12_2, hfz12_0, hfz12_1, hfz12_2⟩ := cz3 BK524) | (go_at_call 16; (with_reducible refine (curve_Valid.calls a1_0 a1_1 _ _ l1_2 t526 _ ?side1 ?side2 A8.out).mono ?_); (case side1 => exact nS HR1_2 HB); (case side2 => exact HC1_2.out); rintro e w13 ⟨rfl, hb⟩; replace BK523 := Aside0.mk (nB BK523 hb); replace BK524 := Aside0.mk (nB BK524 hb); replace HB := Aside0.mk (below_step (nC HB) hb); (try clear hb); (try clear hb2); (try clear hk); (try clear hi)))
    go_meet
    case rel => exact ⟨_, (!t526), (by first | rfl | (simp; done) | (simp [*]; done)), H', ⟨by first | omega | exact Nat.le_refl _⟩, ⟨nK BK523⟩, ⟨nK BK524⟩, ⟨nC HB⟩⟩
  · replace c7 := Bool.eq_false_iff.mpr c7; subst c7; replace H : (curve_Meet.j0 k true a0_0 a0_1 l0_2 a1_0 a1_1 l1_2) = some (r1, r2, r3, r4) := by rw [if_neg (show ¬ (false = true) by decide)] at H; exact H
    have H' := Aside0.mk H; clear H; have hnb14 := NB523_524.out; have hnc14 := NB524_523.out; obtain ⟨hcz15_0, hcz15_1, hcz15_2, hfz15_0, hfz15_1, hfz15_2⟩ := cz3 BK523; go_wp2_with (first | ((with_reducible refine gate_callee (f := 16) rfl ?_); refine gL (some 17) Try.func16 #[.agg #[.int .i64 a0_0, .int .i64 a0_1, .slice A0_2 l0_2.length c0_2]] ?_; (with_reducible refine (curve_Valid.calls a0_0 a0_1 _ _ l0_2 false _ ?side1 ?side2 A6.out).mono ?_); (case side1 => exact nS HR0_2 HB); (case side2 => exact HC0_2.out); rintro e w16 ⟨rfl, hb⟩; refine ⟨_, rfl, ?_⟩; replace BK523 := Aside0.mk (nB BK523 hb); replace BK524 := Aside0.mk (nB BK524 hb); replace HB := Aside0.mk (below_step (nC HB) hb); (try clear hb); (try clear hb2); (try clear hk); (try clear hi)))
    go_meet
    case rel => exact ⟨_, (true), (by first | rfl | (simp; done) | (simp [*]; done)), H', ⟨by first | omega | exact Nat.le_refl _⟩, ⟨nK BK523⟩, ⟨nK BK524⟩, ⟨nC HB⟩⟩
 case rest =>
  clear HC3; obtain ⟨kq, x23_2, rfl, HA, HJ2, BK523, BK524, HB⟩ := hcut
  cases kq with
  | zero => exact absurd HA.out (by simp [curve_Meet.j0])
  | succ kj2 =>
   have H := HA.out; clear HA; simp only [curve_Meet.j0] at H
   by_cases c17 : x23_2 = true
   · subst c17; replace H : (some (0, 0, 0, 2)) = some (r1, r2, r3, r4) := by rw [if_pos rfl] at H; exact H
     simp only [Option.some.injEq, Prod.mk.injEq] at H; obtain ⟨rfl, rfl, rfl, rfl⟩ := H; go_wp2
     refine bodyPost_ret (results_list (rs := [.tmp 4, .tmp 5, .tmp 6, .tmp 7]) rfl (by simp) (.tmp (.tmp (.tmp (.tmp .nil))))) rfl ?_; exact ⟨by first | rfl | (simp [errW_none, errW_some] <;> rfl) | (simp [*, errW_none, errW_some] <;> rfl), nC HB⟩
   · replace c17 := Bool.eq_false_iff.mpr c17; subst c17; replace H : ((curve_to.f a0_0 a0_1 l0_2).bind fun t527 => ((curve_to.f a1_0 a1_1 l1_2).bind fun t528 => (if (mx a0_0 a1_0) > (mn t527 t528) then (some (0, 0, 0, 6)) else (curve_Meet.l0 kj2 (mn t527 t528) (mx a0_0 a1_0) (mx a0_0 a1_0) a0_0 a0_1 l0_2 a1_0 a1_1 l1_2)))) = some (r1, r2, r3, r4) := by rw [if_neg (show ¬ (false = true) by decide)] at H; exact H
     obtain ⟨ji18, hji18⟩ : ∃ j_ : Int, (mx a0_0 a1_0) = j_ := ⟨_, rfl⟩; replace H : ((curve_to.f a0_0 a0_1 l0_2).bind fun t527 => ((curve_to.f a1_0 a1_1 l1_2).bind fun t528 => (if (ji18) > (mn t527 t528) then (some (0, 0, 0, 6)) else (curve_Meet.l0 kj2 (mn t527 t528) ji18 ji18 a0_0 a0_1 l0_2 a1_0 a1_1 l1_2)))) = some (r1, r2, r3, r4) := by first | (rw [hji18] at H; exact H) | (simp only [hji18] at H ⊢; exact H)
     have hji18_ : (if a0_0 < a1_0 then a1_0 else a0_0) = ji18 := hji18; replace H := Option.bind_eq_some_iff.mp H; obtain ⟨t527, A190, H⟩ := H; replace H : ((curve_to.f a1_0 a1_1 l1_2).bind fun t528 => (if (ji18) > (mn t527 t528) then (some (0, 0, 0, 6)) else (curve_Meet.l0 kj2 (mn t527 t528) ji18 ji18 a0_0 a0_1 l0_2 a1_0 a1_1 l1_2))) = some (r1, r2, r3, r4) := H; have A19 := Aside0.mk A190; clear A190; replace H := Option.bind_eq_some_iff.mp H; obtain ⟨t528, A200, H⟩ := H; replace H : (if (ji18) > (mn t527 t528) then (some (0, 0, 0, 6)) else (curve_Meet.l0 kj2 (mn t527 t528) ji18 ji18 a0_0 a0_1 l0_2 a1_0 a1_1 l1_2)) = some (r1, r2, r3, r4) := H; have A20 := Aside0.mk A200; clear A200; obtain ⟨ji21, hji21⟩ : ∃ j_ : Int, (mn t527 t528) = j_ := ⟨_, rfl⟩; replace H : (if (ji18) > (ji21) then (some (0, 0, 0, 6)) else (curve_Meet.l0 kj2 ji21 ji18 ji18 a0_0 a0_1 l0_2 a1_0 a1_1 l1_2)) = some (r1, r2, r3, r4) := by first | (rw [hji21] at H; exact H) | (simp only [hji21] at H ⊢; exact H)
     (try rw [hji21] at A19); (try rw [hji21] at A20); have hji21_ : (if t528 < t527 then t528 else t527) = ji21 := hji21
     by_cases c22 : (ji18) > (ji21)
     · rw [if_pos c22] at H; have c22b0 : decide ((ji21) < (ji18)) = true := decide_eq_true c22; clear c22; simp only [Option.some.injEq, Prod.mk.injEq] at H; obtain ⟨rfl, rfl, rfl, rfl⟩ := H; try go_wp2
       replace BK523 := Aside0.mk (blk_drew BK523.out); replace BK524 := Aside0.mk (blk_drew BK524.out); replace HB := Aside0.mk (below_drew1 HB.out); refine start_ (n := 12) (S := fun w' => w'.cell? ⟨gb523, 0, none⟩ = some (.int .i64 a0_0) ∧ w'.cell? ⟨gb523, 1, none⟩ = some (.int .i64 a0_1) ∧ w'.cell? ⟨gb523, 2, none⟩ = some (.slice A0_2 l0_2.length c0_2) ∧ w'.cell? ⟨gb524, 0, none⟩ = some (.int .i64 a1_0) ∧ w'.cell? ⟨gb524, 1, none⟩ = some (.int .i64 a1_1) ∧ w'.cell? ⟨gb524, 2, none⟩ = some (.slice A1_2 l1_2.length c1_2)) (ds := []) #[false, false, false, false, false, false, false, false, false, false, false, false] (by kernel_rfl) rfl rfl ⟨(blk_cell BK523.out 0).trans rfl, (blk_cell BK523.out 1).trans rfl, (blk_cell BK523.out 2).trans rfl, (blk_cell BK524.out 0).trans rfl, (blk_cell BK524.out 1).trans rfl, (blk_cell BK524.out 2).trans rfl⟩ (fun hHeld => ?_); refine with_tabW curve_Meet.tab3 curve_Meet.bits3 (fun HT_ HW_ => ?_); generalize wc.drew = w23 at BK523 BK524 HB hHeld ⊢; refine pure_ (i := 0) (N := some 24) (v := ?_) (a' := ?_) #[true, false, false, false, false, false, false, false, false, false, false, false] rfl rfl (any_of HT_.out (by kernel_rfl)) (fun _ _ _ h => h) (Or.inl ⟨by rfl, ?_⟩) ?_ ?_; rotate_left
       · intro w'; go_simp
         with_reducible rfl
       rotate_left
       · simp only [Act.put, zs1, zs2, zs3, i64_w, i32_w]; rfl
       refine pure_ (i := 2) (N := some 26) (v := ?_) (a' := ?_) #[true, false, true, false, false, false, false, false, false, false, false, false] rfl rfl (any_of HT_.out (by kernel_rfl)) (fun _ _ _ h => h) (Or.inl ⟨by rfl, ?_⟩) ?_ ?_; rotate_left
       · intro w'; go_simp
         with_reducible rfl
       rotate_left
       · simp only [Act.put, zs1, zs2, zs3, i64_w, i32_w]; rfl
       refine take_ (i := 1) (N := some 25) (v := ?_) (a' := ?_) #[true, true, true, false, false, false, false, false, false, false, false, false] rfl rfl (take_ofW HT_.out HW_.out (by kernel_rfl)) (fun _ _ _ h => h) (Or.inl ⟨by rfl, ?_⟩) hHeld ?_ ?_; rotate_left
       · rintro w' ⟨s0, zs1, zs2, zs3, s4, s5⟩; go_simp
         with_reducible rfl
       rotate_left
       · simp only [Act.put, zs1, zs2, zs3, i64_w, i32_w]; rfl
       refine take_ (i := 3) (N := some 27) (v := ?_) (a' := ?_) #[true, true, true, true, false, false, false, false, false, false, false, false] rfl rfl (take_ofW HT_.out HW_.out (by kernel_rfl)) (fun _ _ _ h => h) (Or.inl ⟨by rfl, ?_⟩) hHeld ?_ ?_; rotate_left
       · rintro w' ⟨s0, zs1, zs2, zs3, s4, s5⟩; go_simp
         with_reducible rfl
       rotate_left
       · simp only [Act.put, zs1, zs2, zs3, i64_w, i32_w]; rfl
       refine pure_ (i := 4) (N := some 28) (v := ?_) (a' := ?_) #[true, true, true, true, true, false, false, false, false, false, false, false] rfl rfl (any_of HT_.out (by kernel_rfl)) (fun _ _ _ h => h) (Or.inl ⟨by rfl, ?_⟩) ?_ ?_; rotate_left
       · intro w'; go_simp
         with_reducible rfl
       rotate_left
       · simp only [Act.put, zs1, zs2, zs3, i64_w, i32_w]; rfl
       refine take_ (i := 5) (N := some 29) (v := ?_) (a' := ?_) #[true, true, true, true, true, true, false, false, false, false, false, false] rfl rfl (take_ofW HT_.out HW_.out (by kernel_rfl)) (fun _ _ _ h => h) (Or.inl ⟨by rfl, ?_⟩) hHeld ?_ ?_; rotate_left
       · rintro w' ⟨s0, zs1, zs2, zs3, s4, s5⟩; go_simp
         with_reducible rfl
       rotate_left
       · simp only [Act.put, zs1, zs2, zs3, i64_w, i32_w]; rfl
       refine take_ (i := 7) (N := some 31) (v := ?_) (a' := ?_) #[true, true, true, true, true, true, false, true, false, false, false, false] rfl rfl (take_ofW HT_.out HW_.out (by kernel_rfl)) (fun _ _ _ h => h) (Or.inl ⟨by rfl, ?_⟩) hHeld ?_ ?_; rotate_left
       · rintro w' ⟨s0, zs1, zs2, zs3, s4, s5⟩; go_simp
         with_reducible rfl
       rotate_left
       · simp only [Act.put, zs1, zs2, zs3, i64_w, i32_w]; rfl
       refine one_ (i := 6) (N := some 30) #[true, true, true, true, true, true, true, true, false, false, false, false] rfl rfl (one_of HT_.out (by kernel_rfl)) (by decide) (fun K hK => ?_); refine gO Try.func58 #[.agg #[.int .i64 a0_0, .int .i64 a0_1, .slice A0_2 l0_2.length c0_2]] ?_
       with_reducible refine (curve_to.calls a0_0 a0_1 _ _ l0_2 t527 _ ?side1 ?side2 A19.out).mono ?_
       (case side1 => exact nS HR0_2 HB); (case side2 => exact HC0_2.out); rintro e w24 ⟨rfl, hb⟩; refine ⟨_, rfl, ?_⟩; replace BK523 := Aside0.mk (nB BK523 hb); replace BK524 := Aside0.mk (nB BK524 hb); replace HB := Aside0.mk (below_step (nC HB) hb); (try clear hb); (try clear hb2); (try clear hk); (try clear hi); refine hK.out _ _ ⟨(blk_cell BK523.out 0).trans rfl, (blk_cell BK523.out 1).trans rfl, (blk_cell BK523.out 2).trans rfl, (blk_cell BK524.out 0).trans rfl, (blk_cell BK524.out 1).trans rfl, (blk_cell BK524.out 2).trans rfl⟩ (fun hHeld => ?_); clear hK K; refine norm_ (a' := ?_) ?_ ?_; rotate_left
       · show Act.put _ (some 30) _ = _; simp only [Act.put, zs1, zs2, zs3, i64_w, i32_w]; rfl
       refine one_ (i := 8) (N := some 32) #[true, true, true, true, true, true, true, true, true, false, false, false] rfl rfl (one_of HT_.out (by kernel_rfl)) (by decide) (fun K hK => ?_); refine gO Try.func58 #[.agg #[.int .i64 a1_0, .int .i64 a1_1, .slice A1_2 l1_2.length c1_2]] ?_
       with_reducible refine (curve_to.calls a1_0 a1_1 _ _ l1_2 t528 _ ?side1 ?side2 A20.out).mono ?_
       (case side1 => exact nS HR1_2 HB); (case side2 => exact HC1_2.out); rintro e w25 ⟨rfl, hb⟩; refine ⟨_, rfl, ?_⟩; replace BK523 := Aside0.mk (nB BK523 hb); replace BK524 := Aside0.mk (nB BK524 hb); replace HB := Aside0.mk (below_step (nC HB) hb); (try clear hb); (try clear hb2); (try clear hk); (try clear hi); refine hK.out _ _ ⟨(blk_cell BK523.out 0).trans rfl, (blk_cell BK523.out 1).trans rfl, (blk_cell BK523.out 2).trans rfl, (blk_cell BK524.out 0).trans rfl, (blk_cell BK524.out 1).trans rfl, (blk_cell BK524.out 2).trans rfl⟩ (fun hHeld => ?_); clear hK K; refine norm_ (a' := ?_) ?_ ?_; rotate_left
       · show Act.put _ (some 32) _ = _; simp only [Act.put, zs1, zs2, zs3, i64_w, i32_w]; rfl
       refine pure_ (i := 9) (N := some 33) (v := ?_) (a' := ?_) #[true, true, true, true, true, true, true, true, true, true, false, false] rfl rfl (any_of HT_.out (by kernel_rfl)) (fun _ _ _ h => h) (Or.inl ⟨by rfl, ?_⟩) ?_ ?_; rotate_left
       · intro w'; go_simp
         with_reducible rfl
       rotate_left
       · simp only [Act.put, zs1, zs2, zs3, i64_w, i32_w]; rfl
       refine pure_ (i := 10) (N := some 8) (v := ?_) (a' := ?_) #[true, true, true, true, true, true, true, true, true, true, true, false] rfl rfl (any_of HT_.out (by kernel_rfl)) (fun _ _ _ h => h) (Or.inl ⟨by rfl, ?_⟩) ?_ ?_; rotate_left
       · intro w'; go_simp
         with_reducible rfl
       rotate_left
       · simp only [Act.put, zs1, zs2, zs3, i64_w, i32_w]; rfl
       refine pure_ (i := 11) (N := some 9) (v := ?_) (a' := ?_) #[true, true, true, true, true, true, true, true, true, true, true, true] rfl rfl (any_of HT_.out (by kernel_rfl)) (fun _ _ _ h => h) (Or.inl ⟨by rfl, ?_⟩) ?_ ?_; rotate_left
       · intro w'; go_simp
         with_reducible rfl
       rotate_left
       · simp only [Act.put, zs1, zs2, zs3, i64_w, i32_w]; rfl
       refine done_ (done_of HT_.out (by kernel_rfl)) ?_; try go_wp2
       refine bodyPost_ret (results_list (rs := [.tmp 4, .tmp 5, .tmp 6, .tmp 7]) rfl (by simp) (.tmp (.tmp (.tmp (.tmp .nil))))) rfl ?_; exact ⟨by first | rfl | (simp [errW_none, errW_some] <;> rfl) | (simp only [← hji18, ← hji21]; first | rfl | (simp [errW_none, errW_some] <;> rfl)) | (simp [*, errW_none, errW_some] <;> rfl), nC HB⟩
     · rw [if_neg c22] at H; have c22b0 : decide ((ji21) < (ji18)) = false := decide_eq_false c22; clear c22; have H' := Aside0.mk H; clear H; try go_wp2
       replace BK523 := Aside0.mk (blk_drew BK523.out); replace BK524 := Aside0.mk (blk_drew BK524.out); replace HB := Aside0.mk (below_drew1 HB.out); refine start_ (n := 12) (S := fun w' => w'.cell? ⟨gb523, 0, none⟩ = some (.int .i64 a0_0) ∧ w'.cell? ⟨gb523, 1, none⟩ = some (.int .i64 a0_1) ∧ w'.cell? ⟨gb523, 2, none⟩ = some (.slice A0_2 l0_2.length c0_2) ∧ w'.cell? ⟨gb524, 0, none⟩ = some (.int .i64 a1_0) ∧ w'.cell? ⟨gb524, 1, none⟩ = some (.int .i64 a1_1) ∧ w'.cell? ⟨gb524, 2, none⟩ = some (.slice A1_2 l1_2.length c1_2)) (ds := []) #[false, false, false, false, false, false, false, false, false, false, false, false] (by kernel_rfl) rfl rfl ⟨(blk_cell BK523.out 0).trans rfl, (blk_cell BK523.out 1).trans rfl, (blk_cell BK523.out 2).trans rfl, (blk_cell BK524.out 0).trans rfl, (blk_cell BK524.out 1).trans rfl, (blk_cell BK524.out 2).trans rfl⟩ (fun hHeld => ?_); refine with_tabW curve_Meet.tab3 curve_Meet.bits3 (fun HT_ HW_ => ?_); generalize wc.drew = w26 at BK523 BK524 HB hHeld ⊢; refine pure_ (i := 0) (N := some 24) (v := ?_) (a' := ?_) #[true, false, false, false, false, false, false, false, false, false, false, false] rfl rfl (any_of HT_.out (by kernel_rfl)) (fun _ _ _ h => h) (Or.inl ⟨by rfl, ?_⟩) ?_ ?_; rotate_left
       · intro w'; go_simp
         with_reducible rfl
       rotate_left
       · simp only [Act.put, zs1, zs2, zs3, i64_w, i32_w]; rfl
       refine pure_ (i := 2) (N := some 26) (v := ?_) (a' := ?_) #[true, false, true, false, false, false, false, false, false, false, false, false] rfl rfl (any_of HT_.out (by kernel_rfl)) (fun _ _ _ h => h) (Or.inl ⟨by rfl, ?_⟩) ?_ ?_; rotate_left
       · intro w'; go_simp
         with_reducible rfl
       rotate_left
       · simp only [Act.put, zs1, zs2, zs3, i64_w, i32_w]; rfl
       refine take_ (i := 1) (N := some 25) (v := ?_) (a' := ?_) #[true, true, true, false, false, false, false, false, false, false, false, false] rfl rfl (take_ofW HT_.out HW_.out (by kernel_rfl)) (fun _ _ _ h => h) (Or.inl ⟨by rfl, ?_⟩) hHeld ?_ ?_; rotate_left
       · rintro w' ⟨s0, zs1, zs2, zs3, s4, s5⟩; go_simp
         with_reducible rfl
       rotate_left
       · simp only [Act.put, zs1, zs2, zs3, i64_w, i32_w]; rfl
       refine take_ (i := 3) (N := some 27) (v := ?_) (a' := ?_) #[true, true, true, true, false, false, false, false, false, false, false, false] rfl rfl (take_ofW HT_.out HW_.out (by kernel_rfl)) (fun _ _ _ h => h) (Or.inl ⟨by rfl, ?_⟩) hHeld ?_ ?_; rotate_left
       · rintro w' ⟨s0, zs1, zs2, zs3, s4, s5⟩; go_simp
         with_reducible rfl
       rotate_left
       · simp only [Act.put, zs1, zs2, zs3, i64_w, i32_w]; rfl
       refine pure_ (i := 4) (N := some 28) (v := ?_) (a' := ?_) #[true, true, true, true, true, false, false, false, false, false, false, false] rfl rfl (any_of HT_.out (by kernel_rfl)) (fun _ _ _ h => h) (Or.inl ⟨by rfl, ?_⟩) ?_ ?_; rotate_left
       · intro w'; go_simp
         with_reducible rfl
       rotate_left
       · simp only [Act.put, zs1, zs2, zs3, i64_w, i32_w]; rfl
       refine take_ (i := 5) (N := some 29) (v := ?_) (a' := ?_) #[true, true, true, true, true, true, false, false, false, false, false, false] rfl rfl (take_ofW HT_.out HW_.out (by kernel_rfl)) (fun _ _ _ h => h) (Or.inl ⟨by rfl, ?_⟩) hHeld ?_ ?_; rotate_left
       · rintro w' ⟨s0, zs1, zs2, zs3, s4, s5⟩; go_simp
         with_reducible rfl
       rotate_left
       · simp only [Act.put, zs1, zs2, zs3, i64_w, i32_w]; rfl
       refine take_ (i := 7) (N := some 31) (v := ?_) (a' := ?_) #[true, true, true, true, true, true, false, true, false, false, false, false] rfl rfl (take_ofW HT_.out HW_.out (by kernel_rfl)) (fun _ _ _ h => h) (Or.inl ⟨by rfl, ?_⟩) hHeld ?_ ?_; rotate_left
       · rintro w' ⟨s0, zs1, zs2, zs3, s4, s5⟩; go_simp
         with_reducible rfl
       rotate_left
       · simp only [Act.put, zs1, zs2, zs3, i64_w, i32_w]; rfl
       refine one_ (i := 6) (N := some 30) #[true, true, true, true, true, true, true, true, false, false, false, false] rfl rfl (one_of HT_.out (by kernel_rfl)) (by decide) (fun K hK => ?_); refine gO Try.func58 #[.agg #[.int .i64 a0_0, .int .i64 a0_1, .slice A0_2 l0_2.length c0_2]] ?_
       with_reducible refine (curve_to.calls a0_0 a0_1 _ _ l0_2 t527 _ ?side1 ?side2 A19.out).mono ?_
       (case side1 => exact nS HR0_2 HB); (case side2 => exact HC0_2.out); rintro e w27 ⟨rfl, hb⟩; refine ⟨_, rfl, ?_⟩; replace BK523 := Aside0.mk (nB BK523 hb); replace BK524 := Aside0.mk (nB BK524 hb); replace HB := Aside0.mk (below_step (nC HB) hb); (try clear hb); (try clear hb2); (try clear hk); (try clear hi); refine hK.out _ _ ⟨(blk_cell BK523.out 0).trans rfl, (blk_cell BK523.out 1).trans rfl, (blk_cell BK523.out 2).trans rfl, (blk_cell BK524.out 0).trans rfl, (blk_cell BK524.out 1).trans rfl, (blk_cell BK524.out 2).trans rfl⟩ (fun hHeld => ?_); clear hK K; refine norm_ (a' := ?_) ?_ ?_; rotate_left
       · show Act.put _ (some 30) _ = _; simp only [Act.put, zs1, zs2, zs3, i64_w, i32_w]; rfl
       refine one_ (i := 8) (N := some 32) #[true, true, true, true, true, true, true, true, true, false, false, false] rfl rfl (one_of HT_.out (by kernel_rfl)) (by decide) (fun K hK => ?_); refine gO Try.func58 #[.agg #[.int .i64 a1_0, .int .i64 a1_1, .slice A1_2 l1_2.length c1_2]] ?_
       with_reducible refine (curve_to.calls a1_0 a1_1 _ _ l1_2 t528 _ ?side1 ?side2 A20.out).mono ?_
       (case side1 => exact nS HR1_2 HB); (case side2 => exact HC1_2.out); rintro e w28 ⟨rfl, hb⟩; refine ⟨_, rfl, ?_⟩; replace BK523 := Aside0.mk (nB BK523 hb); replace BK524 := Aside0.mk (nB BK524 hb); replace HB := Aside0.mk (below_step (nC HB) hb); (try clear hb); (try clear hb2); (try clear hk); (try clear hi); refine hK.out _ _ ⟨(blk_cell BK523.out 0).trans rfl, (blk_cell BK523.out 1).trans rfl, (blk_cell BK523.out 2).trans rfl, (blk_cell BK524.out 0).trans rfl, (blk_cell BK524.out 1).trans rfl, (blk_cell BK524.out 2).trans rfl⟩ (fun hHeld => ?_); clear hK K; refine norm_ (a' := ?_) ?_ ?_; rotate_left
       · show Act.put _ (some 32) _ = _; simp only [Act.put, zs1, zs2, zs3, i64_w, i32_w]; rfl
       refine pure_ (i := 9) (N := some 33) (v := ?_) (a' := ?_) #[true, true, true, true, true, true, true, true, true, true, false, false] rfl rfl (any_of HT_.out (by kernel_rfl)) (fun _ _ _ h => h) (Or.inl ⟨by rfl, ?_⟩) ?_ ?_; rotate_left
       · intro w'; go_simp
         with_reducible rfl
       rotate_left
       · simp only [Act.put, zs1, zs2, zs3, i64_w, i32_w]; rfl
       refine pure_ (i := 10) (N := some 8) (v := ?_) (a' := ?_) #[true, true, true, true, true, true, true, true, true, true, true, false] rfl rfl (any_of HT_.out (by kernel_rfl)) (fun _ _ _ h => h) (Or.inl ⟨by rfl, ?_⟩) ?_ ?_; rotate_left
       · intro w'; go_simp
         with_reducible rfl
       rotate_left
       · simp only [Act.put, zs1, zs2, zs3, i64_w, i32_w]; rfl
       refine pure_ (i := 11) (N := some 9) (v := ?_) (a' := ?_) #[true, true, true, true, true, true, true, true, true, true, true, true] rfl rfl (any_of HT_.out (by kernel_rfl)) (fun _ _ _ h => h) (Or.inl ⟨by rfl, ?_⟩) ?_ ?_; rotate_left
       · intro w'; go_simp
         with_reducible rfl
       rotate_left
       · simp only [Act.put, zs1, zs2, zs3, i64_w, i32_w]; rfl
       refine done_ (done_of HT_.out (by kernel_rfl)) ?_; try go_wp2
       go_loopg [10, 11] kj2 (fun kq v10 v11 w' => ∃ (x10_2 : Int) (x11_2 : Int), v10 = .int .i64 x10_2 ∧ v11 = .int .i64 x11_2 ∧ Aside0 (curve_Meet.l0 kq ji21 x10_2 x11_2 a0_0 a0_1 l0_2 a1_0 a1_1 l1_2 = some (r1, r2, r3, r4)) ∧ Aside0 (kq ≤ kj2) ∧ Aside0 (w'.heap[gb523]? = some (.cells #[.int .i64 a0_0, .int .i64 a0_1, (.slice A0_2 l0_2.length c0_2)] 24 (0, 0))) ∧ Aside0 (w'.heap[gb524]? = some (.cells #[.int .i64 a1_0, .int .i64 a1_1, (.slice A1_2 l1_2.length c1_2)] 24 (0, 0))) ∧ Aside0 (Below w.heap.size w w'))
       case atStart => exact ⟨(ji18), (ji18), (by first | rfl | (simp; done) | (simp only [← hji18] <;> (first | rfl | simp)) | (simp [*]; done)), (by first | rfl | (simp; done) | (simp only [← hji18] <;> (first | rfl | simp)) | (simp [*]; done)), H', ⟨Nat.le_refl _⟩, ⟨nK BK523⟩, ⟨nK BK524⟩, ⟨nC HB⟩⟩
       case round =>
        clear H'; obtain ⟨x10_2, x11_2, rfl, rfl, HA, HK2, BK523, BK524, HB⟩ := hrel
        cases gk with
        | zero => exact absurd HA.out (by simp [curve_Meet.l0])
        | succ k2 =>
         have H := HA.out; clear HA; simp only [curve_Meet.l0] at H
         by_cases c29 : x11_2 ≤ ji21
         · rw [if_pos c29] at H; have c29b0 : decide (x11_2 ≤ ji21) = true := decide_eq_true c29; clear c29; replace H := Option.bind_eq_some_iff.mp H; obtain ⟨t529, A300, H⟩ := H; replace H : ((curve_at.f a1_0 a1_1 l1_2 x11_2).bind fun t530 => ((curve_at.f a0_0 a0_1 l0_2 x10_2).bind fun t531 => ((curve_at.f a1_0 a1_1 l1_2 x10_2).bind fun t532 => (if (wrap64 (t529 + t530)) < (wrap64 (t531 + t532)) then (curve_Meet.l0 k2 ji21 x11_2 (wrap64 (x11_2 + 1)) a0_0 a0_1 l0_2 a1_0 a1_1 l1_2) else (curve_Meet.l0 k2 ji21 x10_2 (wrap64 (x11_2 + 1)) a0_0 a0_1 l0_2 a1_0 a1_1 l1_2))))) = some (r1, r2, r3, r4) := H; have A30 := Aside0.mk A300; clear A300; replace H := Option.bind_eq_some_iff.mp H; obtain ⟨t530, A310, H⟩ := H; replace H : ((curve_at.f a0_0 a0_1 l0_2 x10_2).bind fun t531 => ((curve_at.f a1_0 a1_1 l1_2 x10_2).bind fun t532 => (if (wrap64 (t529 + t530)) < (wrap64 (t531 + t532)) then (curve_Meet.l0 k2 ji21 x11_2 (wrap64 (x11_2 + 1)) a0_0 a0_1 l0_2 a1_0 a1_1 l1_2) else (curve_Meet.l0 k2 ji21 x10_2 (wrap64 (x11_2 + 1)) a0_0 a0_1 l0_2 a1_0 a1_1 l1_2)))) = some (r1, r2, r3, r4) := H; have A31 := Aside0.mk A310; clear A310; replace H := Option.bind_eq_some_iff.mp H; obtain ⟨t531, A320, H⟩ := H; replace H : ((curve_at.f a1_0 a1_1 l1_2 x10_2).bind fun t532 => (if (wrap64 (t529 + t530)) < (wrap64 (t531 + t532)) then (curve_Meet.l0 k2 ji21 x11_2 (wrap64 (x11_2 + 1)) a0_0 a0_1 l0_2 a1_0 a1_1 l1_2) else (curve_Meet.l0 k2 ji21 x10_2 (wrap64 (x11_2 + 1)) a0_0 a0_1 l0_2 a1_0 a1_1 l1_2))) = some (r1, r2, r3, r4) := H; have A32 := Aside0.mk A320; clear A320; replace H := Option.bind_eq_some_iff.mp H; obtain ⟨t532, A330, H⟩ := H; replace H : (if (wrap64 (t529 + t530)) < (wrap64 (t531 + t532)) then (curve_Meet.l0 k2 ji21 x11_2 (wrap64 (x11_2 + 1)) a0_0 a0_1 l0_2 a1_0 a1_1 l1_2) else (curve_Meet.l0 k2 ji21 x10_2 (wrap64 (x11_2 + 1)) a0_0 a0_1 l0_2 a1_0 a1_1 l1_2)) = some (r1, r2, r3, r4) := H; have A33 := Aside0.mk A330; clear A330
           by_cases c34 : (wrap64 (t529 + t530)) < (wrap64 (t531 + t532))
           · rw [if_pos c34] at H; have c34b0 : decide ((wrap64 (t529 + t530)) < (wrap64 (t531 + t532))) = true := decide_eq_true c34; clear c34; have H' := Aside0.mk H; clear H; try go_wp2
             replace BK523 := Aside0.mk (blk_drew BK523.out); replace BK524 := Aside0.mk (blk_drew BK524.out); replace HB := Aside0.mk (below_drew1 HB.out); refine start_ (n := 15) (S := fun w' => w'.cell? ⟨gb523, 0, none⟩ = some (.int .i64 a0_0) ∧ w'.cell? ⟨gb523, 1, none⟩ = some (.int .i64 a0_1) ∧ w'.cell? ⟨gb523, 2, none⟩ = some (.slice A0_2 l0_2.length c0_2) ∧ w'.cell? ⟨gb524, 0, none⟩ = some (.int .i64 a1_0) ∧ w'.cell? ⟨gb524, 1, none⟩ = some (.int .i64 a1_1) ∧ w'.cell? ⟨gb524, 2, none⟩ = some (.slice A1_2 l1_2.length c1_2)) (ds := []) #[false, false, false, false, false, false, false, false, false, false, false, false, false, false, false] (by kernel_rfl) rfl rfl ⟨(blk_cell BK523.out 0).trans rfl, (blk_cell BK523.out 1).trans rfl, (blk_cell BK523.out 2).trans rfl, (blk_cell BK524.out 0).trans rfl, (blk_cell BK524.out 1).trans rfl, (blk_cell BK524.out 2).trans rfl⟩ (fun hHeld => ?_); refine with_tabW curve_Meet.tab10 curve_Meet.bits10 (fun HT_ HW_ => ?_); generalize wr.drew = w35 at BK523 BK524 HB hHeld ⊢; refine pure_ (i := 1) (N := some 45) (v := ?_) (a' := ?_) #[false, true, false, false, false, false, false, false, false, false, false, false, false, false, false] rfl rfl (any_of HT_.out (by kernel_rfl)) (fun _ _ _ h => h) (Or.inl ⟨by rfl, ?_⟩) ?_ ?_; rotate_left
             · intro w'; go_simp
               with_reducible rfl
             rotate_left
             · simp only [Act.put, zs1, zs2, zs3, i64_w, i32_w]; rfl
             refine pure_ (i := 4) (N := some 48) (v := ?_) (a' := ?_) #[false, true, false, false, true, false, false, false, false, false, false, false, false, false, false] rfl rfl (any_of HT_.out (by kernel_rfl)) (fun _ _ _ h => h) (Or.inl ⟨by rfl, ?_⟩) ?_ ?_; rotate_left
             · intro w'; go_simp
               with_reducible rfl
             rotate_left
             · simp only [Act.put, zs1, zs2, zs3, i64_w, i32_w]; rfl
             refine pure_ (i := 8) (N := some 52) (v := ?_) (a' := ?_) #[false, true, false, false, true, false, false, false, true, false, false, false, false, false, false] rfl rfl (any_of HT_.out (by kernel_rfl)) (fun _ _ _ h => h) (Or.inl ⟨by rfl, ?_⟩) ?_ ?_; rotate_left
             · intro w'; go_simp
               with_reducible rfl
             rotate_left
             · simp only [Act.put, zs1, zs2, zs3, i64_w, i32_w]; rfl
             refine pure_ (i := 11) (N := some 55) (v := ?_) (a' := ?_) #[false, true, false, false, true, false, false, false, true, false, false, true, false, false, false] rfl rfl (any_of HT_.out (by kernel_rfl)) (fun _ _ _ h => h) (Or.inl ⟨by rfl, ?_⟩) ?_ ?_; rotate_left
             · intro w'; go_simp
               with_reducible rfl
             rotate_left
             · simp only [Act.put, zs1, zs2, zs3, i64_w, i32_w]; rfl
             refine take_ (i := 0) (N := some 44) (v := ?_) (a' := ?_) #[true, true, false, false, true, false, false, false, true, false, false, true, false, false, false] rfl rfl (take_ofW HT_.out HW_.out (by kernel_rfl)) (fun _ _ _ h => h) (Or.inl ⟨by rfl, ?_⟩) hHeld ?_ ?_; rotate_left
             · rintro w' ⟨s0, zs1, zs2, zs3, s4, s5⟩; go_simp
               with_reducible rfl
             rotate_left
             · simp only [Act.put, zs1, zs2, zs3, i64_w, i32_w]; rfl
             refine take_ (i := 3) (N := some 47) (v := ?_) (a' := ?_) #[true, true, false, true, true, false, false, false, true, false, false, true, false, false, false] rfl rfl (take_ofW HT_.out HW_.out (by kernel_rfl)) (fun _ _ _ h => h) (Or.inl ⟨by rfl, ?_⟩) hHeld ?_ ?_; rotate_left
             · rintro w' ⟨s0, zs1, zs2, zs3, s4, s5⟩; go_simp
               with_reducible rfl
             rotate_left
             · simp only [Act.put, zs1, zs2, zs3, i64_w, i32_w]; rfl
             refine take_ (i := 7) (N := some 51) (v := ?_) (a' := ?_) #[true, true, false, true, true, false, false, true, true, false, false, true, false, false, false] rfl rfl (take_ofW HT_.out HW_.out (by kernel_rfl)) (fun _ _ _ h => h) (Or.inl ⟨by rfl, ?_⟩) hHeld ?_ ?_; rotate_left
             · rintro w' ⟨s0, zs1, zs2, zs3, s4, s5⟩; go_simp
               with_reducible rfl
             rotate_left
             · simp only [Act.put, zs1, zs2, zs3, i64_w, i32_w]; rfl
             refine take_ (i := 10) (N := some 54) (v := ?_) (a' := ?_) #[true, true, false, true, true, false, false, true, true, false, true, true, false, false, false] rfl rfl (take_ofW HT_.out HW_.out (by kernel_rfl)) (fun _ _ _ h => h) (Or.inl ⟨by rfl, ?_⟩) hHeld ?_ ?_; rotate_left
             · rintro w' ⟨s0, zs1, zs2, zs3, s4, s5⟩; go_simp
               with_reducible rfl
             rotate_left
             · simp only [Act.put, zs1, zs2, zs3, i64_w, i32_w]; rfl
             refine one_ (i := 2) (N := some 46) #[true, true, true, true, true, false, false, true, true, false, true, true, false, false, false] rfl rfl (one_of HT_.out (by kernel_rfl)) (by decide) (fun K hK => ?_); refine gO Try.func61 #[.agg #[.int .i64 a0_0, .int .i64 a0_1, .slice A0_2 l0_2.length c0_2], .int .i64 x11_2] ?_
             with_reducible refine (curve_at.calls a0_0 a0_1 _ _ l0_2 x11_2 t529 _ ?side1 ?side2 A30.out).mono ?_
             (case side1 => exact nS HR0_2 HB); (case side2 => exact HC0_2.out); rintro e w36 ⟨rfl, hb⟩; refine ⟨_, rfl, ?_⟩; replace BK523 := Aside0.mk (nB BK523 hb); replace BK524 := Aside0.mk (nB BK524 hb); replace HB := Aside0.mk (below_step (nC HB) hb); (try clear hb); (try clear hb2); (try clear hk); (try clear hi); refine hK.out _ _ ⟨(blk_cell BK523.out 0).trans rfl, (blk_cell BK523.out 1).trans rfl, (blk_cell BK523.out 2).trans rfl, (blk_cell BK524.out 0).trans rfl, (blk_cell BK524.out 1).trans rfl, (blk_cell BK524.out 2).trans rfl⟩ (fun hHeld => ?_); clear hK K; refine norm_ (a' := ?_) ?_ ?_; rotate_left
             · show Act.put _ (some 46) _ = _; simp only [Act.put, zs1, zs2, zs3, i64_w, i32_w]; rfl
             refine one_ (i := 5) (N := some 49) #[true, true, true, true, true, true, false, true, true, false, true, true, false, false, false] rfl rfl (one_of HT_.out (by kernel_rfl)) (by decide) (fun K hK => ?_); refine gO Try.func61 #[.agg #[.int .i64 a1_0, .int .i64 a1_1, .slice A1_2 l1_2.length c1_2], .int .i64 x11_2] ?_
             with_reducible refine (curve_at.calls a1_0 a1_1 _ _ l1_2 x11_2 t530 _ ?side1 ?side2 A31.out).mono ?_
             (case side1 => exact nS HR1_2 HB); (case side2 => exact HC1_2.out); rintro e w37 ⟨rfl, hb⟩; refine ⟨_, rfl, ?_⟩; replace BK523 := Aside0.mk (nB BK523 hb); replace BK524 := Aside0.mk (nB BK524 hb); replace HB := Aside0.mk (below_step (nC HB) hb); (try clear hb); (try clear hb2); (try clear hk); (try clear hi); refine hK.out _ _ ⟨(blk_cell BK523.out 0).trans rfl, (blk_cell BK523.out 1).trans rfl, (blk_cell BK523.out 2).trans rfl, (blk_cell BK524.out 0).trans rfl, (blk_cell BK524.out 1).trans rfl, (blk_cell BK524.out 2).trans rfl⟩ (fun hHeld => ?_); clear hK K; refine norm_ (a' := ?_) ?_ ?_; rotate_left
             · show Act.put _ (some 49) _ = _; simp only [Act.put, zs1, zs2, zs3, i64_w, i32_w]; rfl
             refine pure_ (i := 6) (N := some 50) (v := ?_) (a' := ?_) #[true, true, true, true, true, true, true, true, true, false, true, true, false, false, false] rfl rfl (any_of HT_.out (by kernel_rfl)) (fun _ _ _ h => h) (Or.inl ⟨by rfl, ?_⟩) ?_ ?_; rotate_left
             · intro w'; go_simp
               with_reducible rfl
             rotate_left
             · simp only [Act.put, zs1, zs2, zs3, i64_w, i32_w]; rfl
             refine one_ (i := 9) (N := some 53) #[true, true, true, true, true, true, true, true, true, true, true, true, false, false, false] rfl rfl (one_of HT_.out (by kernel_rfl)) (by decide) (fun K hK => ?_); refine gO Try.func61 #[.agg #[.int .i64 a0_0, .int .i64 a0_1, .slice A0_2 l0_2.length c0_2], .int .i64 x10_2] ?_
             with_reducible refine (curve_at.calls a0_0 a0_1 _ _ l0_2 x10_2 t531 _ ?side1 ?side2 A32.out).mono ?_
             (case side1 => exact nS HR0_2 HB); (case side2 => exact HC0_2.out); rintro e w38 ⟨rfl, hb⟩; refine ⟨_, rfl, ?_⟩; replace BK523 := Aside0.mk (nB BK523 hb); replace BK524 := Aside0.mk (nB BK524 hb); replace HB := Aside0.mk (below_step (nC HB) hb); (try clear hb); (try clear hb2); (try clear hk); (try clear hi); refine hK.out _ _ ⟨(blk_cell BK523.out 0).trans rfl, (blk_cell BK523.out 1).trans rfl, (blk_cell BK523.out 2).trans rfl, (blk_cell BK524.out 0).trans rfl, (blk_cell BK524.out 1).trans rfl, (blk_cell BK524.out 2).trans rfl⟩ (fun hHeld => ?_); clear hK K; refine norm_ (a' := ?_) ?_ ?_; rotate_left
             · show Act.put _ (some 53) _ = _; simp only [Act.put, zs1, zs2, zs3, i64_w, i32_w]; rfl
             refine one_ (i := 12) (N := some 56) #[true, true, true, true, true, true, true, true, true, true, true, true, true, false, false] rfl rfl (one_of HT_.out (by kernel_rfl)) (by decide) (fun K hK => ?_); refine gO Try.func61 #[.agg #[.int .i64 a1_0, .int .i64 a1_1, .slice A1_2 l1_2.length c1_2], .int .i64 x10_2] ?_
             with_reducible refine (curve_at.calls a1_0 a1_1 _ _ l1_2 x10_2 t532 _ ?side1 ?side2 A33.out).mono ?_
             (case side1 => exact nS HR1_2 HB); (case side2 => exact HC1_2.out); rintro e w39 ⟨rfl, hb⟩; refine ⟨_, rfl, ?_⟩; replace BK523 := Aside0.mk (nB BK523 hb); replace BK524 := Aside0.mk (nB BK524 hb); replace HB := Aside0.mk (below_step (nC HB) hb); (try clear hb); (try clear hb2); (try clear hk); (try clear hi); refine hK.out _ _ ⟨(blk_cell BK523.out 0).trans rfl, (blk_cell BK523.out 1).trans rfl, (blk_cell BK523.out 2).trans rfl, (blk_cell BK524.out 0).trans rfl, (blk_cell BK524.out 1).trans rfl, (blk_cell BK524.out 2).trans rfl⟩ (fun hHeld => ?_); clear hK K; refine norm_ (a' := ?_) ?_ ?_; rotate_left
             · show Act.put _ (some 56) _ = _; simp only [Act.put, zs1, zs2, zs3, i64_w, i32_w]; rfl
             refine pure_ (i := 13) (N := some 57) (v := ?_) (a' := ?_) #[true, true, true, true, true, true, true, true, true, true, true, true, true, true, false] rfl rfl (any_of HT_.out (by kernel_rfl)) (fun _ _ _ h => h) (Or.inl ⟨by rfl, ?_⟩) ?_ ?_; rotate_left
             · intro w'; go_simp
               with_reducible rfl
             rotate_left
             · simp only [Act.put, zs1, zs2, zs3, i64_w, i32_w]; rfl
             refine pure_ (i := 14) (N := some 58) (v := ?_) (a' := ?_) #[true, true, true, true, true, true, true, true, true, true, true, true, true, true, true] rfl rfl (any_of HT_.out (by kernel_rfl)) (fun _ _ _ h => h) (Or.inl ⟨by rfl, ?_⟩) ?_ ?_; rotate_left
             · intro w'; go_simp
               with_reducible rfl
             rotate_left
             · simp only [Act.put, zs1, zs2, zs3, i64_w, i32_w]; rfl
             refine done_ (done_of HT_.out (by kernel_rfl)) ?_; try go_wp2
             go_roundg k2
             case measure => have := HJ2.out; have := HK2.out; omega
             case rel => exact ⟨(x11_2), (wrap64 (x11_2 + 1)), (by first | rfl | (simp; done) | (simp [*]; done)), (by first | rfl | (simp; done) | (simp [*]; done)), H', ⟨by have := HJ2.out; have := HK2.out; omega⟩, ⟨nK BK523⟩, ⟨nK BK524⟩, ⟨nC HB⟩⟩
           · rw [if_neg c34] at H; have c34b0 : decide ((wrap64 (t529 + t530)) < (wrap64 (t531 + t532))) = false := decide_eq_false c34; clear c34; have H' := Aside0.mk H; clear H; try go_wp2
             replace BK523 := Aside0.mk (blk_drew BK523.out); replace BK524 := Aside0.mk (blk_drew BK524.out); replace HB := Aside0.mk (below_drew1 HB.out); refine start_ (n := 15) (S := fun w' => w'.cell? ⟨gb523, 0, none⟩ = some (.int .i64 a0_0) ∧ w'.cell? ⟨gb523, 1, none⟩ = some (.int .i64 a0_1) ∧ w'.cell? ⟨gb523, 2, none⟩ = some (.slice A0_2 l0_2.length c0_2) ∧ w'.cell? ⟨gb524, 0, none⟩ = some (.int .i64 a1_0) ∧ w'.cell? ⟨gb524, 1, none⟩ = some (.int .i64 a1_1) ∧ w'.cell? ⟨gb524, 2, none⟩ = some (.slice A1_2 l1_2.length c1_2)) (ds := []) #[false, false, false, false, false, false, false, false, false, false, false, false, false, false, false] (by kernel_rfl) rfl rfl ⟨(blk_cell BK523.out 0).trans rfl, (blk_cell BK523.out 1).trans rfl, (blk_cell BK523.out 2).trans rfl, (blk_cell BK524.out 0).trans rfl, (blk_cell BK524.out 1).trans rfl, (blk_cell BK524.out 2).trans rfl⟩ (fun hHeld => ?_); refine with_tabW curve_Meet.tab10 curve_Meet.bits10 (fun HT_ HW_ => ?_); generalize wr.drew = w40 at BK523 BK524 HB hHeld ⊢; refine pure_ (i := 1) (N := some 45) (v := ?_) (a' := ?_) #[false, true, false, false, false, false, false, false, false, false, false, false, false, false, false] rfl rfl (any_of HT_.out (by kernel_rfl)) (fun _ _ _ h => h) (Or.inl ⟨by rfl, ?_⟩) ?_ ?_; rotate_left
             · intro w'; go_simp
               with_reducible rfl
             rotate_left
             · simp only [Act.put, zs1, zs2, zs3, i64_w, i32_w]; rfl
             refine pure_ (i := 4) (N := some 48) (v := ?_) (a' := ?_) #[false, true, false, false, true, false, false, false, false, false, false, false, false, false, false] rfl rfl (any_of HT_.out (by kernel_rfl)) (fun _ _ _ h => h) (Or.inl ⟨by rfl, ?_⟩) ?_ ?_; rotate_left
             · intro w'; go_simp
               with_reducible rfl
             rotate_left
             · simp only [Act.put, zs1, zs2, zs3, i64_w, i32_w]; rfl
             refine pure_ (i := 8) (N := some 52) (v := ?_) (a' := ?_) #[false, true, false, false, true, false, false, false, true, false, false, false, false, false, false] rfl rfl (any_of HT_.out (by kernel_rfl)) (fun _ _ _ h => h) (Or.inl ⟨by rfl, ?_⟩) ?_ ?_; rotate_left
             · intro w'; go_simp
               with_reducible rfl
             rotate_left
             · simp only [Act.put, zs1, zs2, zs3, i64_w, i32_w]; rfl
             refine pure_ (i := 11) (N := some 55) (v := ?_) (a' := ?_) #[false, true, false, false, true, false, false, false, true, false, false, true, false, false, false] rfl rfl (any_of HT_.out (by kernel_rfl)) (fun _ _ _ h => h) (Or.inl ⟨by rfl, ?_⟩) ?_ ?_; rotate_left
             · intro w'; go_simp
               with_reducible rfl
             rotate_left
             · simp only [Act.put, zs1, zs2, zs3, i64_w, i32_w]; rfl
             refine take_ (i := 0) (N := some 44) (v := ?_) (a' := ?_) #[true, true, false, false, true, false, false, false, true, false, false, true, false, false, false] rfl rfl (take_ofW HT_.out HW_.out (by kernel_rfl)) (fun _ _ _ h => h) (Or.inl ⟨by rfl, ?_⟩) hHeld ?_ ?_; rotate_left
             · rintro w' ⟨s0, zs1, zs2, zs3, s4, s5⟩; go_simp
               with_reducible rfl
             rotate_left
             · simp only [Act.put, zs1, zs2, zs3, i64_w, i32_w]; rfl
             refine take_ (i := 3) (N := some 47) (v := ?_) (a' := ?_) #[true, true, false, true, true, false, false, false, true, false, false, true, false, false, false] rfl rfl (take_ofW HT_.out HW_.out (by kernel_rfl)) (fun _ _ _ h => h) (Or.inl ⟨by rfl, ?_⟩) hHeld ?_ ?_; rotate_left
             · rintro w' ⟨s0, zs1, zs2, zs3, s4, s5⟩; go_simp
               with_reducible rfl
             rotate_left
             · simp only [Act.put, zs1, zs2, zs3, i64_w, i32_w]; rfl
             refine take_ (i := 7) (N := some 51) (v := ?_) (a' := ?_) #[true, true, false, true, true, false, false, true, true, false, false, true, false, false, false] rfl rfl (take_ofW HT_.out HW_.out (by kernel_rfl)) (fun _ _ _ h => h) (Or.inl ⟨by rfl, ?_⟩) hHeld ?_ ?_; rotate_left
             · rintro w' ⟨s0, zs1, zs2, zs3, s4, s5⟩; go_simp
               with_reducible rfl
             rotate_left
             · simp only [Act.put, zs1, zs2, zs3, i64_w, i32_w]; rfl
             refine take_ (i := 10) (N := some 54) (v := ?_) (a' := ?_) #[true, true, false, true, true, false, false, true, true, false, true, true, false, false, false] rfl rfl (take_ofW HT_.out HW_.out (by kernel_rfl)) (fun _ _ _ h => h) (Or.inl ⟨by rfl, ?_⟩) hHeld ?_ ?_; rotate_left
             · rintro w' ⟨s0, zs1, zs2, zs3, s4, s5⟩; go_simp
               with_reducible rfl
             rotate_left
             · simp only [Act.put, zs1, zs2, zs3, i64_w, i32_w]; rfl
             refine one_ (i := 2) (N := some 46) #[true, true, true, true, true, false, false, true, true, false, true, true, false, false, false] rfl rfl (one_of HT_.out (by kernel_rfl)) (by decide) (fun K hK => ?_); refine gO Try.func61 #[.agg #[.int .i64 a0_0, .int .i64 a0_1, .slice A0_2 l0_2.length c0_2], .int .i64 x11_2] ?_
             with_reducible refine (curve_at.calls a0_0 a0_1 _ _ l0_2 x11_2 t529 _ ?side1 ?side2 A30.out).mono ?_
             (case side1 => exact nS HR0_2 HB); (case side2 => exact HC0_2.out); rintro e w41 ⟨rfl, hb⟩; refine ⟨_, rfl, ?_⟩; replace BK523 := Aside0.mk (nB BK523 hb); replace BK524 := Aside0.mk (nB BK524 hb); replace HB := Aside0.mk (below_step (nC HB) hb); (try clear hb); (try clear hb2); (try clear hk); (try clear hi); refine hK.out _ _ ⟨(blk_cell BK523.out 0).trans rfl, (blk_cell BK523.out 1).trans rfl, (blk_cell BK523.out 2).trans rfl, (blk_cell BK524.out 0).trans rfl, (blk_cell BK524.out 1).trans rfl, (blk_cell BK524.out 2).trans rfl⟩ (fun hHeld => ?_); clear hK K; refine norm_ (a' := ?_) ?_ ?_; rotate_left
             · show Act.put _ (some 46) _ = _; simp only [Act.put, zs1, zs2, zs3, i64_w, i32_w]; rfl
             refine one_ (i := 5) (N := some 49) #[true, true, true, true, true, true, false, true, true, false, true, true, false, false, false] rfl rfl (one_of HT_.out (by kernel_rfl)) (by decide) (fun K hK => ?_); refine gO Try.func61 #[.agg #[.int .i64 a1_0, .int .i64 a1_1, .slice A1_2 l1_2.length c1_2], .int .i64 x11_2] ?_
             with_reducible refine (curve_at.calls a1_0 a1_1 _ _ l1_2 x11_2 t530 _ ?side1 ?side2 A31.out).mono ?_
             (case side1 => exact nS HR1_2 HB); (case side2 => exact HC1_2.out); rintro e w42 ⟨rfl, hb⟩; refine ⟨_, rfl, ?_⟩; replace BK523 := Aside0.mk (nB BK523 hb); replace BK524 := Aside0.mk (nB BK524 hb); replace HB := Aside0.mk (below_step (nC HB) hb); (try clear hb); (try clear hb2); (try clear hk); (try clear hi); refine hK.out _ _ ⟨(blk_cell BK523.out 0).trans rfl, (blk_cell BK523.out 1).trans rfl, (blk_cell BK523.out 2).trans rfl, (blk_cell BK524.out 0).trans rfl, (blk_cell BK524.out 1).trans rfl, (blk_cell BK524.out 2).trans rfl⟩ (fun hHeld => ?_); clear hK K; refine norm_ (a' := ?_) ?_ ?_; rotate_left
             · show Act.put _ (some 49) _ = _; simp only [Act.put, zs1, zs2, zs3, i64_w, i32_w]; rfl
             refine pure_ (i := 6) (N := some 50) (v := ?_) (a' := ?_) #[true, true, true, true, true, true, true, true, true, false, true, true, false, false, false] rfl rfl (any_of HT_.out (by kernel_rfl)) (fun _ _ _ h => h) (Or.inl ⟨by rfl, ?_⟩) ?_ ?_; rotate_left
             · intro w'; go_simp
               with_reducible rfl
             rotate_left
             · simp only [Act.put, zs1, zs2, zs3, i64_w, i32_w]; rfl
             refine one_ (i := 9) (N := some 53) #[true, true, true, true, true, true, true, true, true, true, true, true, false, false, false] rfl rfl (one_of HT_.out (by kernel_rfl)) (by decide) (fun K hK => ?_); refine gO Try.func61 #[.agg #[.int .i64 a0_0, .int .i64 a0_1, .slice A0_2 l0_2.length c0_2], .int .i64 x10_2] ?_
             with_reducible refine (curve_at.calls a0_0 a0_1 _ _ l0_2 x10_2 t531 _ ?side1 ?side2 A32.out).mono ?_
             (case side1 => exact nS HR0_2 HB); (case side2 => exact HC0_2.out); rintro e w43 ⟨rfl, hb⟩; refine ⟨_, rfl, ?_⟩; replace BK523 := Aside0.mk (nB BK523 hb); replace BK524 := Aside0.mk (nB BK524 hb); replace HB := Aside0.mk (below_step (nC HB) hb); (try clear hb); (try clear hb2); (try clear hk); (try clear hi); refine hK.out _ _ ⟨(blk_cell BK523.out 0).trans rfl, (blk_cell BK523.out 1).trans rfl, (blk_cell BK523.out 2).trans rfl, (blk_cell BK524.out 0).trans rfl, (blk_cell BK524.out 1).trans rfl, (blk_cell BK524.out 2).trans rfl⟩ (fun hHeld => ?_); clear hK K; refine norm_ (a' := ?_) ?_ ?_; rotate_left
             · show Act.put _ (some 53) _ = _; simp only [Act.put, zs1, zs2, zs3, i64_w, i32_w]; rfl
             refine one_ (i := 12) (N := some 56) #[true, true, true, true, true, true, true, true, true, true, true, true, true, false, false] rfl rfl (one_of HT_.out (by kernel_rfl)) (by decide) (fun K hK => ?_); refine gO Try.func61 #[.agg #[.int .i64 a1_0, .int .i64 a1_1, .slice A1_2 l1_2.length c1_2], .int .i64 x10_2] ?_
             with_reducible refine (curve_at.calls a1_0 a1_1 _ _ l1_2 x10_2 t532 _ ?side1 ?side2 A33.out).mono ?_
             (case side1 => exact nS HR1_2 HB); (case side2 => exact HC1_2.out); rintro e w44 ⟨rfl, hb⟩; refine ⟨_, rfl, ?_⟩; replace BK523 := Aside0.mk (nB BK523 hb); replace BK524 := Aside0.mk (nB BK524 hb); replace HB := Aside0.mk (below_step (nC HB) hb); (try clear hb); (try clear hb2); (try clear hk); (try clear hi); refine hK.out _ _ ⟨(blk_cell BK523.out 0).trans rfl, (blk_cell BK523.out 1).trans rfl, (blk_cell BK523.out 2).trans rfl, (blk_cell BK524.out 0).trans rfl, (blk_cell BK524.out 1).trans rfl, (blk_cell BK524.out 2).trans rfl⟩ (fun hHeld => ?_); clear hK K; refine norm_ (a' := ?_) ?_ ?_; rotate_left
             · show Act.put _ (some 56) _ = _; simp only [Act.put, zs1, zs2, zs3, i64_w, i32_w]; rfl
             refine pure_ (i := 13) (N := some 57) (v := ?_) (a' := ?_) #[true, true, true, true, true, true, true, true, true, true, true, true, true, true, false] rfl rfl (any_of HT_.out (by kernel_rfl)) (fun _ _ _ h => h) (Or.inl ⟨by rfl, ?_⟩) ?_ ?_; rotate_left
             · intro w'; go_simp
               with_reducible rfl
             rotate_left
             · simp only [Act.put, zs1, zs2, zs3, i64_w, i32_w]; rfl
             refine pure_ (i := 14) (N := some 58) (v := ?_) (a' := ?_) #[true, true, true, true, true, true, true, true, true, true, true, true, true, true, true] rfl rfl (any_of HT_.out (by kernel_rfl)) (fun _ _ _ h => h) (Or.inl ⟨by rfl, ?_⟩) ?_ ?_; rotate_left
             · intro w'; go_simp
               with_reducible rfl
             rotate_left
             · simp only [Act.put, zs1, zs2, zs3, i64_w, i32_w]; rfl
             refine done_ (done_of HT_.out (by kernel_rfl)) ?_; try go_wp2
             go_roundg k2
             case measure => have := HJ2.out; have := HK2.out; omega
             case rel => exact ⟨(x10_2), (wrap64 (x11_2 + 1)), (by first | rfl | (simp; done) | (simp [*]; done)), (by first | rfl | (simp; done) | (simp [*]; done)), H', ⟨by have := HJ2.out; have := HK2.out; omega⟩, ⟨nK BK523⟩, ⟨nK BK524⟩, ⟨nC HB⟩⟩
         · rw [if_neg c29] at H; have c29b0 : decide (x11_2 ≤ ji21) = false := decide_eq_false c29; clear c29; replace H := Option.bind_eq_some_iff.mp H; obtain ⟨⟨t533, t534⟩, A450, H⟩ := H; replace H : ((curve_prices.f k2 a1_0 a1_1 l1_2 x10_2).bind fun bt535 => ((curve_at.f a0_0 a0_1 l0_2 x10_2).bind fun t537 => ((curve_at.f a1_0 a1_1 l1_2 x10_2).bind fun t538 => (some (wrap64 (t537 + t538), x10_2, mx t533 (wrap64 (-bt535.2)), 0))))) = some (r1, r2, r3, r4) := H; have A45 := Aside0.mk A450; clear A450; replace H := Option.bind_eq_some_iff.mp H; obtain ⟨⟨t535, t536⟩, A460, H⟩ := H; replace H : ((curve_at.f a0_0 a0_1 l0_2 x10_2).bind fun t537 => ((curve_at.f a1_0 a1_1 l1_2 x10_2).bind fun t538 => (some (wrap64 (t537 + t538), x10_2, mx t533 (wrap64 (-t536)), 0)))) = some (r1, r2, r3, r4) := H; have A46 := Aside0.mk A460; clear A460; replace H := Option.bind_eq_some_iff.mp H; obtain ⟨t537, A470, H⟩ := H; replace H : ((curve_at.f a1_0 a1_1 l1_2 x10_2).bind fun t538 => (some (wrap64 (t537 + t538), x10_2, mx t533 (wrap64 (-t536)), 0))) = some (r1, r2, r3, r4) := H; have A47 := Aside0.mk A470; clear A470; replace H := Option.bind_eq_some_iff.mp H; obtain ⟨t538, A480, H⟩ := H; replace H : (some (wrap64 (t537 + t538), x10_2, mx t533 (wrap64 (-t536)), 0)) = some (r1, r2, r3, r4) := H; have A48 := Aside0.mk A480; clear A480; obtain ⟨ji49, hji49⟩ : ∃ j_ : Int, (mx t533 (wrap64 (-t536))) = j_ := ⟨_, rfl⟩; replace H : (some (wrap64 (t537 + t538), x10_2, ji49, 0)) = some (r1, r2, r3, r4) := by first | (rw [hji49] at H; exact H) | (simp only [hji49] at H ⊢; exact H)
           (try rw [hji49] at A45); (try rw [hji49] at A46); (try rw [hji49] at A47); (try rw [hji49] at A48); have hji49_ : (if t533 < (wrap64 (-t536)) then (wrap64 (-t536)) else t533) = ji49 := hji49; simp only [Option.some.injEq, Prod.mk.injEq] at H; obtain ⟨rfl, rfl, rfl, rfl⟩ := H; have hnb50 := NB523_524.out; have hnc50 := NB524_523.out; obtain ⟨hcz51_0, hcz51_1, hcz51_2, hfz51_0, hfz51_1, hfz51_2⟩ := cz3 BK523; try go_wp2_with (first | ((with_reducible refine gate_callee (f := 62) rfl ?_); refine gL (some 63) Try.func62 #[.agg #[.int .i64 a0_0, .int .i64 a0_1, .slice A0_2 l0_2.length c0_2], .int .i64 x10_2] ?_; (with_reducible refine (curve_prices.calls k2 a0_0 a0_1 _ _ l0_2 x10_2 t533 t534 _ ?side1 ?side2 A45.out).mono ?_); (case side1 => exact nS HR0_2 HB); (case side2 => exact HC0_2.out); rintro e w52 ⟨rfl, hb⟩; refine ⟨_, rfl, ?_⟩; replace BK523 := Aside0.mk (nB BK523 hb); replace BK524 := Aside0.mk (nB BK524 hb); replace HB := Aside0.mk (below_step (nC HB) hb); (try clear hb); (try clear hb2); (try clear hk); (try clear hi); obtain ⟨hcz53_0, hcz53_1, hcz53_2, hfz53_0, hfz53_1, hfz53_2⟩ := cz3 BK524) | ((with_reducible refine gate_callee (f := 62) rfl ?_); refine gL (some 69) Try.func62 #[.agg #[.int .i64 a1_0, .int .i64 a1_1, .slice A1_2 l1_2.length c1_2], .int .i64 x10_2] ?_; (with_reducible refine (curve_prices.calls k2 a1_0 a1_1 _ _ l1_2 x10_2 t535 t536 _ ?side1 ?side2 A46.out).mono ?_); (case side1 => exact nS HR1_2 HB); (case side2 => exact HC1_2.out); rintro e w54 ⟨rfl, hb⟩; refine ⟨_, rfl, ?_⟩; replace BK523 := Aside0.mk (nB BK523 hb); replace BK524 := Aside0.mk (nB BK524 hb); replace HB := Aside0.mk (below_step (nC HB) hb); (try clear hb); (try clear hb2); (try clear hk); (try clear hi)))
           replace BK523 := Aside0.mk (blk_drew BK523.out); replace BK524 := Aside0.mk (blk_drew BK524.out); replace HB := Aside0.mk (below_drew1 HB.out); refine start_ (n := 16) (S := fun w' => w'.cell? ⟨gb523, 0, none⟩ = some (.int .i64 a0_0) ∧ w'.cell? ⟨gb523, 1, none⟩ = some (.int .i64 a0_1) ∧ w'.cell? ⟨gb523, 2, none⟩ = some (.slice A0_2 l0_2.length c0_2) ∧ w'.cell? ⟨gb524, 0, none⟩ = some (.int .i64 a1_0) ∧ w'.cell? ⟨gb524, 1, none⟩ = some (.int .i64 a1_1) ∧ w'.cell? ⟨gb524, 2, none⟩ = some (.slice A1_2 l1_2.length c1_2)) (ds := []) #[false, false, false, false, false, false, false, false, false, false, false, false, false, false, false, false] (by kernel_rfl) rfl rfl ⟨(blk_cell BK523.out 0).trans rfl, (blk_cell BK523.out 1).trans rfl, (blk_cell BK523.out 2).trans rfl, (blk_cell BK524.out 0).trans rfl, (blk_cell BK524.out 1).trans rfl, (blk_cell BK524.out 2).trans rfl⟩ (fun hHeld => ?_); refine with_tabW curve_Meet.tab14 curve_Meet.bits14 (fun HT_ HW_ => ?_); generalize w54.drew = w55 at BK523 BK524 HB hHeld ⊢; refine pure_ (i := 1) (N := some 73) (v := ?_) (a' := ?_) #[false, true, false, false, false, false, false, false, false, false, false, false, false, false, false, false] rfl rfl (any_of HT_.out (by kernel_rfl)) (fun _ _ _ h => h) (Or.inl ⟨by rfl, ?_⟩) ?_ ?_; rotate_left
           · intro w'; go_simp
             with_reducible rfl
           rotate_left
           · simp only [Act.put, zs1, zs2, zs3, i64_w, i32_w]; rfl
           refine pure_ (i := 4) (N := some 76) (v := ?_) (a' := ?_) #[false, true, false, false, true, false, false, false, false, false, false, false, false, false, false, false] rfl rfl (any_of HT_.out (by kernel_rfl)) (fun _ _ _ h => h) (Or.inl ⟨by rfl, ?_⟩) ?_ ?_; rotate_left
           · intro w'; go_simp
             with_reducible rfl
           rotate_left
           · simp only [Act.put, zs1, zs2, zs3, i64_w, i32_w]; rfl
           refine pure_ (i := 7) (N := some 79) (v := ?_) (a' := ?_) #[false, true, false, false, true, false, false, true, false, false, false, false, false, false, false, false] rfl rfl (any_of HT_.out (by kernel_rfl)) (fun _ _ _ h => h) (Or.inl ⟨by rfl, ?_⟩) ?_ ?_; rotate_left
           · intro w'; go_simp
             with_reducible rfl
           rotate_left
           · simp only [Act.put, zs1, zs2, zs3, i64_w, i32_w]; rfl
           refine pure_ (i := 8) (N := some 80) (v := ?_) (a' := ?_) #[false, true, false, false, true, false, false, true, true, false, false, false, false, false, false, false] rfl rfl (any_of HT_.out (by kernel_rfl)) (fun _ _ _ h => h) (Or.inl ⟨by rfl, ?_⟩) ?_ ?_; rotate_left
           · intro w'; go_simp
             with_reducible rfl
           rotate_left
           · simp only [Act.put, zs1, zs2, zs3, i64_w, i32_w]; rfl
           refine pure_ (i := 9) (N := some 81) (v := ?_) (a' := ?_) #[false, true, false, false, true, false, false, true, true, true, false, false, false, false, false, false] rfl rfl (any_of HT_.out (by kernel_rfl)) (fun _ _ _ h => h) (Or.inl ⟨by rfl, ?_⟩) ?_ ?_; rotate_left
           · intro w'; go_simp
             with_reducible rfl
           rotate_left
           · simp only [Act.put, zs1, zs2, zs3, i64_w, i32_w]; rfl
           refine pure_ (i := 10) (N := some 82) (v := ?_) (a' := ?_) #[false, true, false, false, true, false, false, true, true, true, true, false, false, false, false, false] rfl rfl (any_of HT_.out (by kernel_rfl)) (fun _ _ _ h => h) (Or.inl ⟨by rfl, ?_⟩) ?_ ?_; rotate_left
           · intro w'; go_simp
             with_reducible rfl
           rotate_left
           · simp only [Act.put, zs1, zs2, zs3, i64_w, i32_w]; rfl
           refine pure_ (i := 11) (N := some 83) (v := ?_) (a' := ?_) #[false, true, false, false, true, false, false, true, true, true, true, true, false, false, false, false] rfl rfl (any_of HT_.out (by kernel_rfl)) (fun _ _ _ h => h) (Or.inl ⟨by rfl, ?_⟩) ?_ ?_; rotate_left
           · intro w'; go_simp
             with_reducible rfl
           rotate_left
           · simp only [Act.put, zs1, zs2, zs3, i64_w, i32_w]; rfl
           refine take_ (i := 0) (N := some 72) (v := ?_) (a' := ?_) #[true, true, false, false, true, false, false, true, true, true, true, true, false, false, false, false] rfl rfl (take_ofW HT_.out HW_.out (by kernel_rfl)) (fun _ _ _ h => h) (Or.inl ⟨by rfl, ?_⟩) hHeld ?_ ?_; rotate_left
           · rintro w' ⟨s0, zs1, zs2, zs3, s4, s5⟩; go_simp
             with_reducible rfl
           rotate_left
           · simp only [Act.put, zs1, zs2, zs3, i64_w, i32_w]; rfl
           refine take_ (i := 3) (N := some 75) (v := ?_) (a' := ?_) #[true, true, false, true, true, false, false, true, true, true, true, true, false, false, false, false] rfl rfl (take_ofW HT_.out HW_.out (by kernel_rfl)) (fun _ _ _ h => h) (Or.inl ⟨by rfl, ?_⟩) hHeld ?_ ?_; rotate_left
           · rintro w' ⟨s0, zs1, zs2, zs3, s4, s5⟩; go_simp
             with_reducible rfl
           rotate_left
           · simp only [Act.put, zs1, zs2, zs3, i64_w, i32_w]; rfl
           refine one_ (i := 2) (N := some 74) #[true, true, true, true, true, false, false, true, true, true, true, true, false, false, false, false] rfl rfl (one_of HT_.out (by kernel_rfl)) (by decide) (fun K hK => ?_); refine gO Try.func61 #[.agg #[.int .i64 a0_0, .int .i64 a0_1, .slice A0_2 l0_2.length c0_2], .int .i64 x10_2] ?_
           with_reducible refine (curve_at.calls a0_0 a0_1 _ _ l0_2 x10_2 t537 _ ?side1 ?side2 A47.out).mono ?_
           (case side1 => exact nS HR0_2 HB); (case side2 => exact HC0_2.out); rintro e w56 ⟨rfl, hb⟩; refine ⟨_, rfl, ?_⟩; replace BK523 := Aside0.mk (nB BK523 hb); replace BK524 := Aside0.mk (nB BK524 hb); replace HB := Aside0.mk (below_step (nC HB) hb); (try clear hb); (try clear hb2); (try clear hk); (try clear hi); refine hK.out _ _ ⟨(blk_cell BK523.out 0).trans rfl, (blk_cell BK523.out 1).trans rfl, (blk_cell BK523.out 2).trans rfl, (blk_cell BK524.out 0).trans rfl, (blk_cell BK524.out 1).trans rfl, (blk_cell BK524.out 2).trans rfl⟩ (fun hHeld => ?_); clear hK K; refine norm_ (a' := ?_) ?_ ?_; rotate_left
           · show Act.put _ (some 74) _ = _; simp only [Act.put, zs1, zs2, zs3, i64_w, i32_w]; rfl
           refine one_ (i := 5) (N := some 77) #[true, true, true, true, true, true, false, true, true, true, true, true, false, false, false, false] rfl rfl (one_of HT_.out (by kernel_rfl)) (by decide) (fun K hK => ?_); refine gO Try.func61 #[.agg #[.int .i64 a1_0, .int .i64 a1_1, .slice A1_2 l1_2.length c1_2], .int .i64 x10_2] ?_
           with_reducible refine (curve_at.calls a1_0 a1_1 _ _ l1_2 x10_2 t538 _ ?side1 ?side2 A48.out).mono ?_
           (case side1 => exact nS HR1_2 HB); (case side2 => exact HC1_2.out); rintro e w57 ⟨rfl, hb⟩; refine ⟨_, rfl, ?_⟩; replace BK523 := Aside0.mk (nB BK523 hb); replace BK524 := Aside0.mk (nB BK524 hb); replace HB := Aside0.mk (below_step (nC HB) hb); (try clear hb); (try clear hb2); (try clear hk); (try clear hi); refine hK.out _ _ ⟨(blk_cell BK523.out 0).trans rfl, (blk_cell BK523.out 1).trans rfl, (blk_cell BK523.out 2).trans rfl, (blk_cell BK524.out 0).trans rfl, (blk_cell BK524.out 1).trans rfl, (blk_cell BK524.out 2).trans rfl⟩ (fun hHeld => ?_); clear hK K; refine norm_ (a' := ?_) ?_ ?_; rotate_left
           · show Act.put _ (some 77) _ = _; simp only [Act.put, zs1, zs2, zs3, i64_w, i32_w]; rfl
           refine pure_ (i := 6) (N := some 78) (v := ?_) (a' := ?_) #[true, true, true, true, true, true, true, true, true, true, true, true, false, false, false, false] rfl rfl (any_of HT_.out (by kernel_rfl)) (fun _ _ _ h => h) (Or.inl ⟨by rfl, ?_⟩) ?_ ?_; rotate_left
           · intro w'; go_simp
             with_reducible rfl
           rotate_left
           · simp only [Act.put, zs1, zs2, zs3, i64_w, i32_w]; rfl
           refine pure_ (i := 12) (N := some 4) (v := ?_) (a' := ?_) #[true, true, true, true, true, true, true, true, true, true, true, true, true, false, false, false] rfl rfl (any_of HT_.out (by kernel_rfl)) (fun _ _ _ h => h) (Or.inl ⟨by rfl, ?_⟩) ?_ ?_; rotate_left
           · intro w'; go_simp
             with_reducible rfl
           rotate_left
           · simp only [Act.put, zs1, zs2, zs3, i64_w, i32_w]; rfl
           refine pure_ (i := 13) (N := some 5) (v := ?_) (a' := ?_) #[true, true, true, true, true, true, true, true, true, true, true, true, true, true, false, false] rfl rfl (any_of HT_.out (by kernel_rfl)) (fun _ _ _ h => h) (Or.inl ⟨by rfl, ?_⟩) ?_ ?_; rotate_left
           · intro w'; go_simp
             with_reducible rfl
           rotate_left
           · simp only [Act.put, zs1, zs2, zs3, i64_w, i32_w]; rfl
           refine pure_ (i := 14) (N := some 6) (v := ?_) (a' := ?_) #[true, true, true, true, true, true, true, true, true, true, true, true, true, true, true, false] rfl rfl (any_of HT_.out (by kernel_rfl)) (fun _ _ _ h => h) (Or.inl ⟨by rfl, ?_⟩) ?_ ?_; rotate_left
           · intro w'; go_simp
             with_reducible rfl
           rotate_left
           · simp only [Act.put, zs1, zs2, zs3, i64_w, i32_w]; rfl
           refine pure_ (i := 15) (N := some 7) (v := ?_) (a' := ?_) #[true, true, true, true, true, true, true, true, true, true, true, true, true, true, true, true] rfl rfl (any_of HT_.out (by kernel_rfl)) (fun _ _ _ h => h) (Or.inl ⟨by rfl, ?_⟩) ?_ ?_; rotate_left
           · intro w'; go_simp
             with_reducible rfl
           rotate_left
           · simp only [Act.put, zs1, zs2, zs3, i64_w, i32_w]; rfl
           refine done_ (done_of HT_.out (by kernel_rfl)) ?_; try go_wp2
           refine bodyPost_ret (results_list (rs := [.tmp 4, .tmp 5, .tmp 6, .tmp 7]) rfl (by simp) (.tmp (.tmp (.tmp (.tmp .nil))))) rfl ?_; exact ⟨by first | rfl | (simp [errW_none, errW_some] <;> rfl) | (simp only [← hji18, ← hji21, ← hji49]; first | rfl | (simp [errW_none, errW_some] <;> rfl)) | (simp [*, errW_none, errW_some] <;> rfl), nC HB⟩
end Go.Proofs.Ytingjpcgehgiiaa.Pr
end
