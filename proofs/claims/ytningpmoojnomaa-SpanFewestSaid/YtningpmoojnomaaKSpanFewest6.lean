/- What the proof of the law needs, trimmed and merged by wip/pack.py out of the texts YtningpmoojnomaaAlive, YtningpmoojnomaaFewb, YtningpmoojnomaaArgs, YtningpmoojnomaaWalkSpanFewest, YtningpmoojnomaaRowSpanFewest. No condition. -/
import Derived.Deep.Slices
import Derived.Deep.Fields
import Derived.ChangeSame
import Derived.Lib.SmallJoins
import Derived.OpenShut
import Derived.Test.YtningpmoojnomaaRows
import Derived.WalkKit
import Derived.ProofKit
import Derived.ShutString
import Derived.ChangeOld
import Derived.Below
import Derived.SizedLaws
import Derived.Test.YtningpmoojnomaaKSpanFewest0
import Derived.Test.YtningpmoojnomaaKSpanFewest1
import Derived.Test.YtningpmoojnomaaKSpanFewest2
import Derived.Test.YtningpmoojnomaaKSpanFewest3
import Derived.Test.YtningpmoojnomaaKSpanFewest4
import Derived.Test.YtningpmoojnomaaKSpanFewest5
section
namespace Go.Proofs.Ytningpmoojnomaa.Pr
open Go.RowKit Go.Proofs.YtningpmoojnomaaW.PrintWords Go.Proofs.YtningpmoojnomaaW.PrintLast Go.Proofs.YtningpmoojnomaaW.PrintMore
theorem alive_now : kimberlitelaw01_alive.f 40 = some true := by kernel_rfl
theorem alive_ev : Ev (fun k => kimberlitelaw01_alive.f k) true := Ev.of (fun k => kimberlitelaw01_alive.mono k) alive_now
end Go.Proofs.Ytningpmoojnomaa.Pr
end
section
namespace Go.Proofs.Ytningpmoojnomaa.Pr
open Go.RowKit Go.Proofs.YtningpmoojnomaaW.PrintWords Go.Proofs.YtningpmoojnomaaW.PrintLast Go.Proofs.YtningpmoojnomaaW.PrintMore
set_option linter.unusedVariables false
set_option linter.unusedSimpArgs false
def Chain (l : List S32) (hi : Int) : Int → List Int → List Int → Prop
  | x, [], [] => hi ≤ x
  | x, b :: t, y :: a => y = x ∧ x < hi ∧ b = best l x ∧ ¬ b < 0 ∧ Chain l hi (l.getD b.toNat z32).f1 t a
  | _, _, _ => False
theorem cov_chain (l : List S32) (hi : Int) : ∀ (d : Nat) (x : Int) (t a : List Int), (hi - x).toNat ≤ d → (cov l hi d x t a).2.2 ≠ 0 ∧ (cov l hi d x t a) = ([], [], 10) ∧ (∃ y, x ≤ y ∧ y < hi ∧ ∀ j, j < l.length → ¬ holds l y j) ∨
    ∃ tt aa, cov l hi d x t a = (t ++ tt, a ++ aa, 0) ∧ Chain l hi x tt aa
  | 0, x, t, a, h => .inr ⟨[], [], by simp [cov], by simp only [Chain]; omega⟩
  | d + 1, x, t, a, h => by
    rw [cov]
    by_cases hx : x < hi
    · rw [if_pos hx]
      by_cases hb : best l x < 0
      · rw [if_pos hb]
        refine .inl ⟨by simp, rfl, x, Int.le_refl _, hx, ?_⟩
        rcases best_at l x with ⟨_, h⟩ | ⟨m, _, e, _⟩
        · exact h
        · omega
      · rw [if_neg hb]
        have hp := (best_pos hb).1
        rcases cov_chain l hi d (l.getD (best l x).toNat z32).f1 (t ++ [best l x]) (a ++ [x]) (by omega) with ⟨h1, h2, y, y1, y2⟩ | ⟨tt, aa, he, hc⟩
        · exact .inl ⟨h1, h2, y, by omega, y2⟩
        · exact .inr ⟨best l x :: tt, x :: aa, by rw [he]; simp, rfl, hx, rfl, hb, hc⟩
    · rw [if_neg hx]
      exact .inr ⟨[], [], by simp, by simp only [Chain]; omega⟩
theorem holds_best {l : List S32} {x : Int} (h : ¬ best l x < 0) : holds l x (best l x).toNat ∧ (best l x).toNat < l.length ∧ ((best l x).toNat : Int) = best l x ∧ ∀ j, j < l.length → holds l x j → (l.getD j z32).f1 ≤ (l.getD (best l x).toNat z32).f1 := by
  rcases best_at l x with ⟨e, _⟩ | ⟨m, hm, e, hh, hj⟩
  · omega
  · rw [e, Int.toNat_natCast]
    exact ⟨hh, hm, rfl, hj⟩
theorem chain_facts (l : List S32) (hi : Int) : ∀ (t a : List Int) (x : Int), Chain l hi x t a → t.length = a.length ∧ (∀ y ∈ a, x ≤ y ∧ y < hi) ∧ (∀ b ∈ t, 0 ≤ b ∧ b < (l.length : Int) ∧ x < (l.getD b.toNat z32).f1) ∧ t.Nodup ∧
    (∀ j, j < l.length → a.countP (fun y => decide (holds l y j)) ≤ 1) ∧ (∀ y, x ≤ y → y < hi → ∃ j, j < l.length ∧ (j : Int) ∈ t ∧ holds l y j)
  | [], [], x, h => by
    simp only [Chain] at h
    refine ⟨rfl, fun y hy => (by cases hy), fun y hy => (by cases hy), List.nodup_nil, fun j hj => by simp, fun y y1 y2 => by omega⟩
  | b :: t, y :: a, x, ⟨h1, h2, h3, h4, h5⟩ => by
    subst h1
    obtain ⟨g1, g2, g3, g4, g5, g6⟩ := chain_facts l hi t a _ h5
    rw [h3] at h4
    obtain ⟨b1, b2, b3, b4⟩ := holds_best h4
    rw [← h3] at b1 b2 b3 b4
    have bx := b1.2
    refine ⟨by simp [g1], fun z hz => ?_, fun c hc => ?_, ?_, fun j hj => ?_, fun z z1 z2 => ?_⟩
    · rcases List.mem_cons.1 hz with rfl | hz
      · exact ⟨Int.le_refl _, h2⟩
      · have := g2 z hz; omega
    · rcases List.mem_cons.1 hc with rfl | hc
      · exact ⟨by omega, by omega, bx⟩
      · have := g3 c hc; omega
    · rw [List.nodup_cons]
      refine ⟨fun hm => ?_, g4⟩
      have := (g3 b hm).2.2
      omega
    · rw [List.countP_cons]
      by_cases hh : holds l y j
      · have e0 : a.countP (fun y => decide (holds l y j)) = 0 := by
          rw [List.countP_eq_zero]
          intro z hz hc
          have hc := of_decide_eq_true hc
          have := b4 j hj hh
          have := (g2 z hz).1
          have := hc.2
          omega
        rw [e0, if_pos (decide_eq_true hh)]
        omega
      · rw [if_neg (by simpa using hh)]
        exact g5 j hj
    · by_cases hz : z < (l.getD b.toNat z32).f1
      · exact ⟨b.toNat, b2, by rw [b3]; exact List.mem_cons_self, by have := b1.1; exact ⟨by omega, hz⟩⟩
      · obtain ⟨j, j1, j2, j3⟩ := g6 z (by omega) z2
        exact ⟨j, j1, List.mem_cons_of_mem _ j2, j3⟩
theorem sum_le_len (f : Nat → Nat) : ∀ J : List Nat, (∀ j ∈ J, f j ≤ 1) → (J.map f).sum ≤ J.length
  | [], _ => by simp
  | j :: J, h => by
    have := sum_le_len f J (fun k hk => h k (List.mem_cons_of_mem _ hk))
    have := h j List.mem_cons_self
    simp
    omega
theorem sum_add (f g : Nat → Nat) : ∀ J : List Nat, (J.map (fun j => f j + g j)).sum = (J.map f).sum + (J.map g).sum
  | [] => by simp
  | j :: J => by have := sum_add f g J; simp; omega
theorem sum_pos (f : Nat → Nat) : ∀ J : List Nat, (∃ j ∈ J, 1 ≤ f j) → 1 ≤ (J.map f).sum
  | [], ⟨_, h, _⟩ => by cases h
  | j :: J, ⟨k, hk, h⟩ => by
    rcases List.mem_cons.1 hk with rfl | hk
    · simp; omega
    · have := sum_pos f J ⟨k, hk, h⟩
      simp
      omega
theorem pigeon (l : List S32) (J : List Nat) : ∀ a : List Int, (∀ y ∈ a, ∃ j ∈ J, holds l y j) → a.length ≤ (J.map (fun j => a.countP (fun y => decide (holds l y j)))).sum
  | [], _ => by simp
  | y :: a, h => by
    have ih := pigeon l J a (fun z hz => h z (List.mem_cons_of_mem _ hz))
    have hp := sum_pos (fun j => if decide (holds l y j) = true then 1 else 0) J (by
      obtain ⟨j, hj, hh⟩ := h y List.mem_cons_self
      exact ⟨j, hj, by rw [if_pos (decide_eq_true hh)]; omega⟩)
    have hs := sum_add (fun j => a.countP (fun y => decide (holds l y j))) (fun j => if decide (holds l y j) = true then 1 else 0) J
    simp only [List.countP_cons]
    rw [hs]
    simp
    simp at hp ih
    omega
/-- How many are picked. -/
def pickN (p : List Bool) : List Nat := (List.range p.length).filter (fun j => p.getD j false)
theorem pickN_len (p : List Bool) : (pickN p).length = p.countP id := by
  unfold pickN
  rw [← List.countP_eq_length_filter]
  have : p = (List.range p.length).map (fun j => p.getD j false) := by
    refine List.ext_getElem (by simp) (fun i h1 h2 => ?_)
    simp [List.getD_eq_getElem?_getD, List.getElem?_eq_getElem h1]
  conv => rhs; rw [this, List.countP_map]
  rfl
end Go.Proofs.Ytningpmoojnomaa.Pr
end
section
namespace Go.Proofs.Ytningpmoojnomaa.Pr
open Go.RowKit Go.ChangeShapes Go.WideShapes Go.Deep Go.Joins Go.Proofs.YtningpmoojnomaaW.PrintWords Go.Proofs.YtningpmoojnomaaW.PrintLast Go.Proofs.YtningpmoojnomaaW.PrintMore
set_option linter.unusedVariables false
set_option linter.unusedSimpArgs false
section
variable {H : Type} {enc : TypeId × Value → H} {W : World}
/-- Both numbers of a span are int64s. -/
def okS (x : S32) : Prop := (Lit.int .i64 x.f0).wf = true ∧ (Lit.int .i64 x.f1).wf = true
set_option maxRecDepth 100000 in
theorem open_spans {a : Option Addr} {len cap : Nat} {d : DataW H} {p : List MemPlace} (h : DataW.Trod enc Try.prog W 0 (fun _ => true) true 22 (.slice a len cap) d p) :
    ∃ l : List S32, l.length = len ∧ l.length ≤ cap ∧ Kd.C k32 W a l.length l ∧ ∀ x ∈ l, okS x := by
  obtain ⟨fuel, hf⟩ := h
  rcases open_slice Try.underlying22 hf with ⟨hcs, _⟩ | ⟨ad, len', cap', m, n, D, Pl, hcs, _, hl, hm, hmm, _, hi⟩
  · simp [Value.cells] at hcs
    obtain ⟨rfl, rfl, rfl⟩ := hcs
    exact ⟨[], rfl, by simp, ⟨rfl, by simp, fun h => absurd h (by simp)⟩, fun x hx => absurd hx (by simp)⟩
  · simp [Value.cells] at hcs
    obtain ⟨rfl, rfl, rfl⟩ := hcs
    have hC : Try.prog.cellsOf 32 = 2 := by kernel_rfl
    have key : ∀ i, i < len → ∃ x : S32, okS x ∧ W.cell? (ad.add (i * 2)) = some (.int .i64 x.f0) ∧ W.cell? (ad.add (i * 2 + 1)) = some (.int .i64 x.f1) := by
      intro i hil
      obtain ⟨cs', hc, ht'⟩ := hi i (by rw [hmm]; simp; omega)
      rw [hC] at hc
      obtain ⟨ys, n', hn', hy, hlen, hyl, hfd⟩ := DataW.trod_struct Try.underlying32 ht'
      obtain ⟨_, hcl, hat⟩ := World.cells?_some hc
      match cs', hcl with
      | [c0, c1], _ =>
        have k3 : Try.prog.cellsOf 3 = 1 := by kernel_rfl
        obtain ⟨y0, hy0⟩ : ∃ y, ys[0]? = some y := ⟨_, List.getElem?_eq_getElem (by rw [hyl]; decide)⟩
        obtain ⟨y1, hy1⟩ : ∃ y, ys[1]? = some y := ⟨_, List.getElem?_eq_getElem (by rw [hyl]; decide)⟩
        have g0 := hfd 0 _ rfl
        have g1 := hfd 1 _ rfl
        dsimp only [List.getElem_toArray, List.getElem_cons_zero, List.getElem_cons_succ] at g0 g1
        rw [k3, hy0] at g0
        rw [k3, hy1] at g1
        simp only [List.drop_zero, List.drop_succ_cons, List.take_succ_cons, List.take_zero] at g0 g1
        obtain ⟨a0, e0, _, w0⟩ := DataW.trod_int Try.underlying3 g0
        obtain ⟨a1, e1, _, w1⟩ := DataW.trod_int Try.underlying3 g1
        simp at e0 e1
        subst e0 e1
        have h0 := hat 0 (by omega)
        have h1 := hat 1 (by omega)
        rw [Deep.add_add] at h0 h1
        exact ⟨⟨a0, a1⟩, ⟨w0, w1⟩, by simpa using h0, by simpa using h1⟩
    obtain ⟨f, hf⟩ := @choose_lt S32 ⟨z32⟩ _ _ key
    refine ⟨(List.range len).map f, by simp, by simpa using hl, ⟨by simp, by simp; simp only [maxLen] at hm; omega, fun _ => ⟨ad, rfl, fun j x hj => ?_⟩⟩, ?_⟩
    · obtain ⟨hjl, hx⟩ := List.getElem?_eq_some_iff.1 hj
      have hjl' : j < len := by simpa using hjl
      simp at hx
      subst hx
      obtain ⟨_, h0, h1⟩ := hf j hjl'
      refine ⟨_, rfl, k32_mk W (f j), fun i u hu => ?_⟩
      match i, hu with
      | 0, hu => simp at hu; subst hu; exact h0
      | 1, hu => simp at hu; subst hu; exact h1
      | i + 2, hu => simp at hu
    · intro x hx
      obtain ⟨j, hj, rfl⟩ := List.mem_map.1 hx
      exact (hf j (by simpa using hj)).1
set_option maxRecDepth 100000 in
theorem open_span {b0 : Nat} {v : Value} {d : DataW H} {p : List MemPlace} (hv : Value.okWide Try.prog W .any b0 32 v) (h : DataW.Trod enc Try.prog W 0 (fun _ => true) true 32 v d p) :
    ∃ x : S32, v = .agg #[.int .i64 x.f0, .int .i64 x.f1] ∧ okS x := by
  obtain ⟨c0, c1, y0, y1, m, rfl, rfl, rfl, hy0, hy1⟩ := open_agg2 Try.underlying32 (by kernel_rfl) (by kernel_rfl) hv h
  dsimp only at hy0 hy1
  obtain ⟨a0, e0, _, w0⟩ := DataW.trod_int Try.underlying3 hy0
  obtain ⟨a1, e1, _, w1⟩ := DataW.trod_int Try.underlying3 hy1
  simp at e0 e1
  subst e0 e1
  exact ⟨⟨a0, a1⟩, rfl, w0, w1⟩
set_option maxRecDepth 100000 in
theorem open_bools {a : Option Addr} {len cap : Nat} {d : DataW H} {p : List MemPlace} (h : DataW.Trod enc Try.prog W 0 (fun _ => true) true 40 (.slice a len cap) d p) :
    ∃ l : List Bool, l.length = len ∧ l.length ≤ cap ∧ Kd.C Kd.bool W a l.length l := by
  obtain ⟨fuel, hf⟩ := h
  rcases open_slice Try.underlying40 hf with ⟨hcs, _⟩ | ⟨ad, len', cap', m, n, D, Pl, hcs, _, hl, hm, hmm, _, hi⟩
  · simp [Value.cells] at hcs
    obtain ⟨rfl, rfl, rfl⟩ := hcs
    exact ⟨[], rfl, by simp, ⟨rfl, by simp, fun h => absurd h (by simp)⟩⟩
  · simp [Value.cells] at hcs
    obtain ⟨rfl, rfl, rfl⟩ := hcs
    have hC : Try.prog.cellsOf 4 = 1 := by kernel_rfl
    have key : ∀ i, i < len → ∃ x : Bool, W.cell? (ad.add i) = some (.bool x) := by
      intro i hil
      obtain ⟨cs', hc, ht'⟩ := hi i (by rw [hmm]; simp; omega)
      rw [hC] at hc
      obtain ⟨_, hcl, hat⟩ := World.cells?_some hc
      match cs', hcl with
      | [c0], _ =>
        obtain ⟨a0, e0, _⟩ := DataW.trod_bool Try.underlying4 ht'
        simp at e0
        subst e0
        have h0 := hat 0 (by omega)
        rw [Deep.add_add] at h0
        exact ⟨a0, by simpa using h0⟩
    obtain ⟨f, hf⟩ := choose_lt key
    refine ⟨(List.range len).map f, by simp, by simpa using hl, ⟨by simp, by simp; simp only [maxLen] at hm; omega, fun _ => ⟨ad, rfl, fun j x hj => ?_⟩⟩⟩
    · obtain ⟨hjl, hx⟩ := List.getElem?_eq_some_iff.1 hj
      have hjl' : j < len := by simpa using hjl
      simp at hx
      subst hx
      have h0 := hf j hjl'
      refine ⟨[.bool (f j)], rfl, rfl, fun i u hu => ?_⟩
      match i, hu with
      | 0, hu => simp at hu; subst hu; simpa [show Kd.bool.sz = 1 from rfl] using h0
      | i + 1, hu => simp at hu
end
end Go.Proofs.Ytningpmoojnomaa.Pr
end
section
namespace Go.Proofs.Ytningpmoojnomaa.Pr
open Go.RowKit Go.Proofs.YtningpmoojnomaaW.PrintWords Go.Proofs.YtningpmoojnomaaW.PrintLast Go.Proofs.YtningpmoojnomaaW.PrintMore
set_option linter.unusedVariables false
set_option linter.unusedSimpArgs false
theorem rd_at (t : List Int) (i : Nat) (h : i < t.length) : rd t (i : Int) = t[i] := by
  unfold rd
  simp [List.getD_eq_getElem?_getD, List.getElem?_eq_getElem h]
theorem few_l0 (l : List S32) (pk : List Bool) (t a : List Int) (lo hi : Int) (hn : l.length ≤ 1000) (hta : t.length = a.length) (ha : ∀ y ∈ a, lo ≤ y ∧ y < hi) (ht : ∀ b ∈ t, 0 ≤ b ∧ b < (l.length : Int)) (hd : t.Nodup) (htn : t.length ≤ 4398046511104) (r : Bool)
    (K : ∀ mine : List Bool, mine.length = l.length → (∀ j, j < l.length → (mine.getD j false = true ↔ (j : Int) ∈ t)) → Ev (fun k => kimberlitelaw01_SpanFewest.l1 k l pk t a mine 0 lo hi) r) :
    ∀ (d i : Nat) (mine : List Bool), t.length - i = d → i ≤ t.length → mine.length = l.length → (∀ j, j < l.length → (mine.getD j false = true ↔ (j : Int) ∈ t.take i)) → Ev (fun k => kimberlitelaw01_SpanFewest.l0 k l pk t a mine (i : Int) lo hi) r
  | 0, i, mine, h, hi', hm, hj => by
    have e : t.take i = t := List.take_of_length_le (by omega)
    rw [e] at hj
    exact Ev.step (fun k => by simp only [kimberlitelaw01_SpanFewest.l0]; rw [if_neg (by omega)]) (K mine hm hj)
  | d + 1, i, mine, h, hi', hm, hj => by
    have hi0 : i < t.length := by omega
    have hia : i < a.length := by omega
    have et := rd_at t i hi0
    have ea := rd_at a i hia
    have hb := ht t[i] (List.getElem_mem hi0)
    have hy := ha a[i] (List.getElem_mem hia)
    obtain ⟨b, hbn⟩ : ∃ b : Nat, t[i] = (b : Int) := ⟨t[i].toNat, by omega⟩
    rw [hbn] at et hb
    have hbl : b < l.length := by omega
    have hnot : mine.getD b false = false := by
      rw [← Bool.not_eq_true, hj b hbl, ← hbn]
      intro hc
      obtain ⟨k, hk, he⟩ := List.getElem_of_mem hc
      rw [List.getElem_take] at he
      rw [List.length_take] at hk
      exact (List.pairwise_iff_getElem.1 hd) k i (by omega) hi0 (by omega) he
    have er : rdOf false mine ((b : Nat) : Int) = false := by unfold rdOf; rw [Int.toNat_natCast]; exact hnot
    refine Ev.step (f := fun k => kimberlitelaw01_SpanFewest.j2 k l pk t a mine (i : Int) false lo hi) (fun k => ?_) ?_
    · simp only [kimberlitelaw01_SpanFewest.l0]
      rw [if_pos (by omega), if_pos (by omega), et, ea, er, if_neg (by omega), if_neg (by omega), if_pos (by omega), if_pos (by omega), if_neg (by simp), if_pos (by omega), if_neg (by omega), decide_eq_false (by omega)]
    · have := few_l0 l pk t a lo hi hn hta ha ht hd htn r K d (i + 1) (mine.set b true) (by omega) (by omega) (by simpa using hm) (fun j hjl => by
        rw [List.take_succ_eq_append_getElem hi0, List.mem_append, List.mem_singleton, hbn, ← hj j hjl]
        rw [List.getD_eq_getElem?_getD, List.getD_eq_getElem?_getD, List.getElem?_set]
        by_cases hbj : b = j
        · subst hbj
          simp [hm, hbl]
        · rw [if_neg hbj]
          have : ¬ (j : Int) = (b : Int) := by omega
          simp [this])
      refine Ev.step (fun k => ?_) this
      simp only [kimberlitelaw01_SpanFewest.j2]
      rw [if_neg (by simp), if_pos (by omega), if_pos (by omega), et, if_pos (by omega), if_pos (by omega), Int.toNat_natCast, wrap_succ hi0 (by omega)]
theorem few_l2 (l : List S32) (pk : List Bool) (t a : List Int) (mine : List Bool) (lo hi : Int) (hl : l.length ≤ 1000) (han : a.length ≤ 4398046511104) (r : Bool) (i : Nat) (hi0 : i < l.length) (K : Ev (fun k => kimberlitelaw01_SpanFewest.l1 k l pk t a mine ((i + 1 : Nat) : Int) lo hi) r) :
    ∀ (d q n : Nat), a.length - q = d → q ≤ a.length → n + (a.drop q).countP (fun y => decide (holds l y i)) ≤ 1 → Ev (fun k => kimberlitelaw01_SpanFewest.l2 k l pk t a mine (i : Int) (n : Int) (q : Int) lo hi) r
  | 0, q, n, h, hq, hc => by
    refine Ev.step (fun k => ?_) K
    simp only [kimberlitelaw01_SpanFewest.l2]
    rw [if_neg (by omega), if_neg (by omega), wrap_succ hi0 (by omega)]
  | d + 1, q, n, h, hq, hc => by
    have hq0 : q < a.length := by omega
    rw [dropI a q hq0, List.countP_cons] at hc
    refine Ev.step (f := fun k => kimberlitelaw01_SpanFewest.j5 k l pk t a mine (i : Int) (n : Int) (q : Int) (decide (holds l (rd a (q : Int)) i)) lo hi) (fun k => ?_) ?_
    · simp only [kimberlitelaw01_SpanFewest.l2]
      rw [if_pos (by omega), if_pos (by omega), if_pos (by omega), if_pos (by omega), rd_nat]
      by_cases c1 : (l.getD i z32).f0 ≤ rd a (q : Int)
      · rw [if_pos c1]
        congr 1
        unfold holds
        simp only [c1, true_and]
      · rw [if_neg c1]
        congr 1
        exact (decide_eq_false (fun hh => c1 hh.1)).symm
    · by_cases hh : holds l (rd a (q : Int)) i
      · rw [if_pos (decide_eq_true hh)] at hc
        have := few_l2 l pk t a mine lo hi hl han r i hi0 K d (q + 1) (n + 1) (by omega) (by omega) (by omega)
        refine Ev.step (fun k => ?_) this
        simp only [kimberlitelaw01_SpanFewest.j5]
        rw [if_pos (decide_eq_true hh), wrap_succ hq0 (by omega), wrap_succ (i := n) (n := 5) (by omega) (by omega)]
      · rw [if_neg (by simpa using hh)] at hc
        have := few_l2 l pk t a mine lo hi hl han r i hi0 K d (q + 1) n (by omega) (by omega) (by omega)
        refine Ev.step (fun k => ?_) this
        simp only [kimberlitelaw01_SpanFewest.j5]
        rw [if_neg (by simpa using hh), wrap_succ hq0 (by omega)]
theorem few_l1 (l : List S32) (pk : List Bool) (t a : List Int) (mine : List Bool) (lo hi : Int) (hl : l.length ≤ 1000) (han : a.length ≤ 4398046511104) (hc : ∀ j, j < l.length → a.countP (fun y => decide (holds l y j)) ≤ 1) (r : Bool)
    (K : Ev (fun k => kimberlitelaw01_SpanFewest.l3 k l pk t mine 0 (List.replicate l.length false) 0 lo hi) r) : ∀ (d i : Nat), l.length - i = d → Ev (fun k => kimberlitelaw01_SpanFewest.l1 k l pk t a mine (i : Int) lo hi) r
  | 0, i, h => by
    refine Ev.step (fun k => ?_) K
    simp only [kimberlitelaw01_SpanFewest.l1]
    rw [if_neg (by omega), if_pos (by omega), Int.toNat_natCast, if_pos (by omega)]
  | d + 1, i, h => by
    have hi0 : i < l.length := by omega
    have ih := few_l1 l pk t a mine lo hi hl han hc r K d (i + 1) (by omega)
    have := few_l2 l pk t a mine lo hi hl han r i hi0 ih a.length 0 0 rfl (by omega) (by have := hc i hi0; simpa using this)
    refine Ev.step (fun k => ?_) this
    simp only [kimberlitelaw01_SpanFewest.l1]
    rw [if_pos (by omega)]
    rfl
def theirsAt (pk : List Bool) (N i : Nat) : List Bool := pk.take i ++ List.replicate (N - i) false
theorem few_l3 (l : List S32) (pk : List Bool) (t : List Int) (mine : List Bool) (lo hi : Int) (hl : l.length ≤ 1000) (r : Bool)
    (K : ∀ m, m ≤ l.length → m ≤ pk.length → Ev (fun k => (kimberlitelaw01_covers.f k lo hi l mine).bind fun t462 => (if t462 = true then (if (((pk.take m).countP id : Nat) : Int) ≥ (t.length : Int) then ((kimberlitelaw01_alive.f k).bind fun t463 => (some t463)) else ((kimberlitelaw01_covers.f k lo hi l (theirsAt pk l.length m)).bind fun t464 => (if t464 = true then (some false) else ((kimberlitelaw01_alive.f k).bind fun t465 => (some t465))))) else (some false))) r) :
    ∀ (d i : Nat), l.length - i = d → i ≤ l.length → i ≤ pk.length → Ev (fun k => kimberlitelaw01_SpanFewest.l3 k l pk t mine (((pk.take i).countP id : Nat) : Int) (theirsAt pk l.length i) (i : Int) lo hi) r
  | d, i, h, hil, hip => by
    by_cases hgo : i < l.length ∧ i < pk.length
    · obtain ⟨g1, g2⟩ := hgo
      match d, h with
      | 0, h => omega
      | d + 1, h =>
        have ih := few_l3 l pk t mine lo hi hl r K d (i + 1) (by omega) (by omega) (by omega)
        have hcnt : (pk.take i).countP id ≤ i := Nat.le_trans List.countP_le_length (by rw [List.length_take]; omega)
        have er : rdOf false pk ((i : Nat) : Int) = pk[i] := by unfold rdOf; rw [Int.toNat_natCast]; simp [List.getD_eq_getElem?_getD, List.getElem?_eq_getElem g2]
        have es : (theirsAt pk l.length i).set i (pk[i]) = theirsAt pk l.length (i + 1) := by
          unfold theirsAt
          rw [List.set_append_right _ _ (by rw [List.length_take]; omega), List.take_succ_eq_append_getElem g2, List.append_assoc]
          congr 1
          rw [List.length_take, Nat.min_eq_left (by omega), Nat.sub_self, show l.length - i = (l.length - (i + 1)) + 1 by omega, List.replicate_succ]
          simp
        have el : (theirsAt pk l.length i).length = l.length := by unfold theirsAt; simp; omega
        rw [List.take_succ_eq_append_getElem g2, List.countP_append] at ih
        refine Ev.step (f := fun k => kimberlitelaw01_SpanFewest.j7 k l pk t mine (((pk.take i).countP id : Nat) : Int) (theirsAt pk l.length i) (i : Int) true lo hi) (fun k => by simp only [kimberlitelaw01_SpanFewest.l3]; rw [if_pos (by omega), decide_eq_true (by omega)]) ?_
        refine Ev.step (fun k => ?_) ih
        simp only [kimberlitelaw01_SpanFewest.j7]
        rw [if_pos trivial, if_pos (by omega), if_pos (by omega), if_pos (by omega), er, Int.toNat_natCast, es]
        simp only [Option.bind_some]
        rw [wrap_succ (i := i) (n := l.length) (by omega) (by omega)]
        by_cases hp : pk[i] = true
        · rw [if_pos hp, wrap_succ (i := (pk.take i).countP id) (n := 2000) (by omega) (by omega)]
          simp [hp]
        · rw [if_neg hp]
          simp [hp]
    · have hk := K i hil hip
      refine Ev.step (f := fun k => kimberlitelaw01_SpanFewest.j7 k l pk t mine (((pk.take i).countP id : Nat) : Int) (theirsAt pk l.length i) (i : Int) false lo hi) (fun k => ?_) ?_
      · simp only [kimberlitelaw01_SpanFewest.l3]
        by_cases h1 : i < l.length
        · rw [if_pos (by omega), decide_eq_false (by omega)]
        · rw [if_neg (by omega)]
      · refine Ev.step (fun k => ?_) hk
        simp only [kimberlitelaw01_SpanFewest.j7]
        rw [if_neg (by simp)]
theorem fewest_ok (l : List S32) (pk : List Bool) (hl : l.length ≤ 128) (lo hi : Int) (hlo : -1099511627776 ≤ lo) (hhi : hi ≤ 1099511627776) (hg : ∀ s ∈ l, -1099511627776 ≤ s.f0 ∧ s.f0 < s.f1 ∧ s.f1 ≤ 1099511627776) (t a : List Int) (hc : Chain l hi lo t a) (ht128 : t.length ≤ 4398046511104) :
    Ev (fun k => kimberlitelaw01_SpanFewest.j0 k l pk t a ((a.length : Int) != (t.length : Int)) lo hi) true := by
  obtain ⟨f1, f2, f3, f4, f5, f6⟩ := chain_facts l hi t a lo hc
  refine Ev.step (f := fun k => kimberlitelaw01_SpanFewest.l0 k l pk t a (List.replicate l.length false) ((0 : Nat) : Int) lo hi) (fun k => ?_) ?_
  · simp only [kimberlitelaw01_SpanFewest.j0]
    rw [f1, if_neg (by simp), if_pos (by omega), Int.toNat_natCast, if_pos (by omega)]
    rfl
  refine few_l0 l pk t a lo hi (by omega) f1 f2 (fun b hb => ⟨(f3 b hb).1, (f3 b hb).2.1⟩) f4 (by omega) true (fun mine hm hj => ?_) _ 0 _ rfl (by omega) (by simp) (fun j hjl => by simp [List.getD_eq_getElem?_getD, hjl])
  refine few_l1 l pk t a mine lo hi (by omega) (by omega) f5 true ?_ _ 0 rfl
  have := few_l3 l pk t mine lo hi (by omega) true (fun m hm1 hm2 => ?_) _ 0 rfl (by omega) (by omega)
  · simpa [theirsAt] using this
  · obtain ⟨b, hb, hs⟩ := covers_ev l mine (by omega) (.inr hm) lo hi
    have hbt : b = true := by
      rw [← Bool.not_eq_false]
      intro hbf
      obtain ⟨y, y1, y2, y3⟩ := hs.2 hbf
      obtain ⟨j, j1, j2, j3⟩ := f6 y y1 y2
      exact y3 j j1 (.inr ((hj j j1).2 j2)) j3
    subst hbt
    refine Ev.bind hb ?_
    simp only [if_true]
    by_cases hcnt : (((pk.take m).countP id : Nat) : Int) ≥ (t.length : Int)
    · simp only [if_pos hcnt]
      exact Ev.bind alive_ev (Ev.now _)
    · simp only [if_neg hcnt]
      have hlen : (theirsAt pk l.length m).length = l.length := by unfold theirsAt; simp; omega
      obtain ⟨b', hb', hs'⟩ := covers_ev l (theirsAt pk l.length m) (by omega) (.inr hlen) lo hi
      have hbf : b' = false := by
        rw [← Bool.not_eq_true]
        intro hbt
        have hall := hs'.1 hbt
        have hp := pigeon l (pickN (theirsAt pk l.length m)) a (fun y hy => by
          obtain ⟨j, j1, j2, j3⟩ := hall y (f2 y hy).1 (f2 y hy).2
          refine ⟨j, ?_, j3⟩
          unfold pickN
          rw [List.mem_filter, List.mem_range]
          refine ⟨by omega, ?_⟩
          rcases j2 with h0 | h0
          · omega
          · exact h0)
        have hle := sum_le_len (fun j => a.countP (fun y => decide (holds l y j))) (pickN (theirsAt pk l.length m)) (fun j hj' => by
          unfold pickN at hj'
          rw [List.mem_filter, List.mem_range] at hj'
          exact f5 j (by omega))
        rw [pickN_len] at hle
        have : (theirsAt pk l.length m).countP id = (pk.take m).countP id := by
          unfold theirsAt
          rw [List.countP_append, List.countP_replicate]
          simp
        omega
      subst hbf
      refine Ev.bind hb' ?_
      simp only [Bool.false_eq_true, if_false]
      exact Ev.bind alive_ev (Ev.now _)
theorem chain_len (l : List S32) (hi : Int) : ∀ (t a : List Int) (x : Int), Chain l hi x t a → (t.length : Int) ≤ max 0 (hi - x)
  | [], [], x, h => by simp; omega
  | b :: t, y :: a, x, ⟨h1, h2, h3, h4, h5⟩ => by
    have ih := chain_len l hi t a _ h5
    rw [h3] at h4
    obtain ⟨b1, b2, b3, b4⟩ := holds_best h4
    rw [← h3] at b1
    have := b1.2
    rw [List.length_cons]
    omega
theorem SpanFewest_pure (g : S32) (l : List S32) (pk : List Bool) : ∃ k, kimberlitelaw01_SpanFewest.f k g.f0 g.f1 l pk = some true := by
  refine Ev.rounds ?_
  unfold kimberlitelaw01_SpanFewest.f
  by_cases h128 : (l.length : Int) > 128
  · simp only [if_pos h128]
    exact Ev.bind alive_ev (Ev.now _)
  · simp only [if_neg h128]
    refine Ev.bind (cover_ev g l) (Ev.bind (apart_ev g l) ?_)
    have other : ∀ e : Int, e ≠ 0 → e ≠ 10 → covR g l = ([], [], e) → Ev (fun k => if (covR g l).2.2 = 0 then (if (covR g l).2.2 = 0 then (kimberlitelaw01_SpanFewest.j0 k l pk (covR g l).1 (covR g l).2.1 (((covR g l).2.1.length : Int) != ((covR g l).1.length : Int)) g.f0 g.f1) else (kimberlitelaw01_SpanFewest.j0 k l pk (covR g l).1 (covR g l).2.1 true g.f0 g.f1)) else (if (covR g l).2.2 = (covR g l).2.2 then (if ((covR g l).1.length : Int) = 0 then (if ((covR g l).2.1.length : Int) = 0 then (if (covR g l).2.2 = 10 then ((kimberlitelaw01_covers.f k g.f0 g.f1 l ([] : List Bool)).bind fun t438 => (if t438 = true then (some false) else ((kimberlitelaw01_alive.f k).bind fun t439 => (some t439)))) else ((kimberlitelaw01_alive.f k).bind fun t440 => (some t440))) else (some false)) else (some false)) else (some false))) true := fun e h0 h10 he => by
      rw [he]
      simp only [if_neg h0, if_neg h10, List.length_nil, if_true, Int.natCast_zero, if_pos (show ((0 : Nat) : Int) = 0 from rfl)]
      exact Ev.bind alive_ev (Ev.now _)
    by_cases hg : goodS g = true
    · by_cases hl : listR l = 0
      · have hc : covR g l = cov l g.f1 (g.f1 - g.f0).toNat g.f0 [] [] := by unfold covR; rw [if_pos hg, if_pos hl]
        obtain ⟨n1, n2⟩ := listR_good hl
        obtain ⟨g1, g2, g3⟩ := (goodS_iff g).1 hg
        rcases cov_chain l g.f1 _ g.f0 [] [] (Nat.le_refl _) with ⟨_, he, y, y1, y2, y3⟩ | ⟨tt, aa, he, hch⟩
        · rw [hc, he]
          obtain ⟨b, hb, hs⟩ := covers_ev l [] (by omega) (.inl rfl) g.f0 g.f1
          have hbf : b = false := by
            rw [← Bool.not_eq_true]
            intro hbt
            obtain ⟨j, j1, j2, j3⟩ := hs.1 hbt y y1 y2
            exact y3 j j1 j3
          subst hbf
          simp only [List.length_nil, if_pos (show ((0 : Nat) : Int) = 0 from rfl), if_neg (show ¬ (10 : Int) = 0 by omega), if_true]
          refine Ev.bind hb ?_
          simp only [Bool.false_eq_true, if_false]
          exact Ev.bind alive_ev (Ev.now _)
        · rw [hc, he]
          simp only [List.nil_append, if_true]
          exact fewest_ok l pk n1 g.f0 g.f1 g1 g3 n2 tt aa hch (by have := chain_len l _ _ _ _ hch; omega)
      · refine other (listR l) hl ?_ (by unfold covR; rw [if_pos hg, if_neg hl])
        unfold listR
        split
        · omega
        · split <;> omega
    · exact other 2 (by omega) (by omega) (by unfold covR; rw [if_neg hg])
theorem SpanFewest_walk {W : World} (x0 : S32) (w0 : okS x0) (a1 : Option Addr) (cap1 : Nat) (l1 : List S32) (c1 : l1.length ≤ cap1) (hr1 : Kd.C k32 W a1 l1.length l1) (w1 : ∀ s ∈ l1, okS s) (a2 : Option Addr) (cap2 : Nat) (l2 : List Bool) (c2 : l2.length ≤ cap2) (hr2 : Kd.C Kd.bool W a2 l2.length l2) :
    Calls Try.prog 5 #[.agg #[.int .i64 x0.f0, .int .i64 x0.f1], .slice a1 l1.length cap1, .slice a2 l2.length cap2] W fun e w' => e = .returned (.bool true) ∧ Below W.heap.size W w' := by
  obtain ⟨k, h⟩ := SpanFewest_pure x0 l1 l2
  exact kimberlitelaw01_SpanFewest.calls k _ _ _ _ l1 _ _ l2 true W hr1 c1 hr2 c2 h
end Go.Proofs.Ytningpmoojnomaa.Pr
end
section
namespace Go.Proofs.Ytningpmoojnomaa.spanFewest
open Go.ChangeShapes Go.WideShapes Go.ChangeAt Go.RowKit Go.Proofs.Ytningpmoojnomaa.Pr
set_option linter.unusedVariables false
theorem own : ownKnob Try.prog.godebug = none := by kernel_rfl
theorem laidOut : laidOutB Try.prog = true := by kernel_rfl
set_option maxRecDepth 100000 in
theorem lifted (os : Os) (started : os.Started) (H : Type) (enc : TypeId × Value → H) :
    ReturnsInHanded {} Try.checked os 5 .any (Rows.spanFewestSpec.pre6 enc Try.prog Try.f5 Rows.spanFewestRow.domain false) (Rows.spanFewestSpec.post enc Try.prog Try.f5 false true false false) := by
  refine returnsInHanded_of_change (C := Try.checked) own started (by kernel_rfl) Try.func5
    (ChangeSpec.witness6 (enc := enc) (C := Try.checked) false ⟨#[], #[.agg #[.int .i64 0, .int .i64 0], .slice none 0 0, .slice none 0 0], []⟩ 8 (by kernel_rfl) (by kernel_rfl) (by kernel_rfl) (by kernel_rfl)) ?_
  intro W base args ds gs before hval0 hW hcnd _
  have hval : ∀ (j : Nat) t v, Try.f5.params[j]? = some t → args[j]? = some v → Value.okWide Try.prog W .any base t v := hval0
  have hW' := hW
  obtain ⟨p, q, hA0, hV, rfl, hfz, hnd⟩ := hW
  have hA : DataW.TrodAll enc Try.prog W 0 (fun _ => true) true Try.f5.params.toList args.toList ds p := hA0
  rw [Try.params5] at hA hval
  obtain ⟨v0, vs0, d0, ds0, p0, q0, hargs, rfl, rfl, h0, r0⟩ := trodAll_cons hA
  obtain ⟨v1, vs1, d1, ds1, p1, q1, rfl, rfl, rfl, h1, r1⟩ := trodAll_cons r0
  obtain ⟨v2, vs2, d2, ds2, p2, q2, rfl, rfl, rfl, h2, r2⟩ := trodAll_cons r1
  obtain ⟨rfl, rfl, rfl⟩ := trodAll_nil r2
  obtain rfl : args = #[v0, v1, v2] := by cases args; simp_all
  obtain ⟨rfl, rfl⟩ := trodVars_none hV
  have k0 := h0
  have lt0 : ∀ x ∈ p0, x.block < W.heap.size := by obtain ⟨m, hm⟩ := k0; exact DataW.trod_lt m _ _ _ hm
  obtain ⟨x0, rfl, w0⟩ := open_span (hval 0 32 v0 rfl rfl) h0
  have k1 := h1
  have lt1 : ∀ x ∈ p1, x.block < W.heap.size := by obtain ⟨m, hm⟩ := k1; exact DataW.trod_lt m _ _ _ hm
  obtain ⟨a1, len1, cap1, rfl⟩ := okWide_slice Try.underlying22 (hval 1 22 v1 rfl rfl)
  obtain ⟨l1, rfl, c1, hr1, w1⟩ := open_spans h1
  have k2 := h2
  have lt2 : ∀ x ∈ p2, x.block < W.heap.size := by obtain ⟨m, hm⟩ := k2; exact DataW.trod_lt m _ _ _ hm
  obtain ⟨a2, len2, cap2, rfl⟩ := okWide_slice Try.underlying40 (hval 2 40 v2 rfl rfl)
  obtain ⟨l2, rfl, c2, hr2⟩ := open_bools h2
  clear hA0 hval0
  try simp only [List.append_nil] at hW'
  refine (SpanFewest_walk x0 w0 a1 cap1 l1 c1 hr1 w1 a2 cap2 l2 c2 hr2).mono fun e W' ⟨he, bel⟩ => ?_
  subst he
  exact ⟨_, rfl, _, _, _, [], _, [], hW', trodAll_mk1 (shut_bool Try.underlying4 _), (trodAll_cons_mk (Below.trod laidOut (by kernel_rfl) (of_decide_eq_true (by kernel_rfl)) k0 bel lt0) (trodAll_cons_mk (Below.trod laidOut (by kernel_rfl) (of_decide_eq_true (by kernel_rfl)) k1 bel lt1) (trodAll_cons_mk (Below.trod laidOut (by kernel_rfl) (of_decide_eq_true (by kernel_rfl)) k2 bel lt2) trodAll_mk0))), rfl, bel.frame _, fun h => by cases h⟩
theorem over : Rows.spanFewestRow.holds Try.pinned (OpenSpec.ofChange Rows.spanFewestSpec) :=
  OpenClaim.holds_of_wide 5 Try.f5 rfl rfl rfl rfl rfl rfl rfl ⟨rfl, rfl, rfl, rfl, rfl⟩ rfl rfl rfl rfl rfl (by kernel_rfl) Try.func5 (by kernel_rfl)
    (of_decide_eq_true (by kernel_rfl)) (by unfold Func.isWrapper; first | (rw [if_pos (by decide +kernel)]; kernel_rfl) | (rw [if_neg (by decide +kernel)]; exact ⟨rfl, rfl⟩))
    (fun os started H enc _ => lifted os started H enc)
theorem proved : Rows.SpanFewestSaid := over
end Go.Proofs.Ytningpmoojnomaa.spanFewest
namespace Go.Proofs.Ytningpmoojnomaa
/-- The row, under a short name, for the claim. -/
theorem spanFewest_holds : Rows.SpanFewestSaid := spanFewest.proved
end Go.Proofs.Ytningpmoojnomaa
end
