/- From a row of the call's own to the sort's words, and back: after a row's cells are laid anew the row owns the new list. No condition. -/
import Derived.Test.YtningpmoojnomaaPrx0
import Derived.Shelf.SlSortCmp.NoneTotal
import Derived.Shelf.Sort.Plain
namespace Go.Proofs.Ytningpmoojnomaa.Pr
open Go.RowKit Go.Sort Go.Shelf Go.Proofs.YtningpmoojnomaaW.PrintWords Go.Proofs.YtningpmoojnomaaW.PrintLast Go.Proofs.YtningpmoojnomaaW.PrintMore
set_option linter.unusedVariables false
set_option linter.unusedSimpArgs false

theorem heap_put {w : World} {g m : Nat} {e : TypeId} {cur : Array Value} {F : Array Value} (os : Array Obj) (hb : w.heap[g]? = some (.cells cur e (0, 0))) :
    (grow (putRow id (Sort.ahead w m) g 0 F) os).heap[g]? = some (.cells (putCells id 0 F cur) e (0, 0)) := by
  have hg : g < w.heap.size := (Array.getElem?_eq_some_iff.1 hb).1
  have h1 : (putRow id (Sort.ahead w m) g 0 F).heap[g]? = some (.cells (putCells id 0 F cur) e (0, 0)) := by
    simp only [putRow, mapBlock, Sort.ahead, Array.getElem?_modify, if_true, hb, Option.map_some, onCells]
  unfold grow
  simp only
  rw [Array.getElem?_append_left (by simpa [putRow, mapBlock, Sort.ahead] using hg)]
  exact h1
theorem grownBy_put {w : World} {g m : Nat} {os : Array Obj} (F : Array Value) : w.grownBy (grow (putRow id (Sort.ahead w m) g 0 F) os) (some g) := by
  refine ⟨rfl, rfl, rfl, by simp [grow, putRow, mapBlock, Sort.ahead], fun k hk hne => ?_⟩
  have : g ≠ k := fun e => hne (by rw [e])
  unfold grow
  simp only
  rw [Array.getElem?_append_left (by simpa [putRow, mapBlock, Sort.ahead] using hk)]
  simp [putRow, mapBlock, Sort.ahead, Array.getElem?_modify, this]
theorem take_put (cur : Array Value) (ts : List Value) (h : ts.length ≤ cur.size) : (putCells id 0 ts.toArray cur).toList.take ts.length = ts := by
  apply List.ext_getElem
  · simp [putCells]
    omega
  · intro i h1 h2
    simp only [putCells, List.getElem_take, Array.getElem_toList, Array.getElem_mapIdx]
    rw [if_pos ⟨by omega, by simpa using h2⟩]
    simp only [id, Nat.sub_zero]
    rw [getElem!_pos _ i (by simpa using h2)]
    simp
theorem own_put {w : World} {base g cap n k m : Nat} {e : TypeId} {os : Array Obj} {cur : Array Value} {ts : List Value} (hbase : base ≤ g) (hb : w.heap[g]? = some (.cells cur e (0, 0)))
    (h1 : n ≤ cap) (h2 : cap ≤ maxLen) (h3 : cur.size = cap * k) (hl : ts.length = n * k) :
    (grow (putRow id (Sort.ahead w m) g 0 ts.toArray) os).ownsRow base e k (.slice (some ⟨g, 0, none⟩) n cap) n ts := by
  refine ⟨hl, .inr ⟨g, cap, _, rfl, hbase, heap_put os hb, h1, h2, by simp [putCells, h3], ?_⟩⟩
  rw [← hl]
  exact take_put cur ts (by rw [hl, h3]; exact Nat.mul_le_mul_right _ h1)

/-- A span's two cells. -/
def encS (x : S32) : List Value := [.int .i64 x.f0, .int .i64 x.f1]
instance : Inhabited S32 := ⟨z32⟩
theorem reps_flat (w : World) (base : Nat) (ok : Nat → Prop) (ts : List S32) : Reps (k32.M w base ok) 2 ts (flatK encS 2 ts.toArray).toList := by
  refine ⟨by simp, fun j p hj => ?_⟩
  obtain ⟨hjl, hp⟩ := List.getElem?_eq_some_iff.1 hj
  have : ((flatK encS 2 ts.toArray).toList.drop (j * 2)).take 2 = encS p := by
    apply List.ext_getElem
    · simp [encS]
      omega
    · intro i h1 h2
      have hi : i < 2 := by simpa [encS] using h2
      have e1 : (j * 2 + i) / 2 = j := by omega
      have e2 : (j * 2 + i) % 2 = i := by omega
      simp only [List.getElem_take, List.getElem_drop, Array.getElem_toList]
      have hlt : j * 2 + i < (flatK encS 2 ts.toArray).size := by simp; omega
      have := get_flatK encS 2 ts.toArray (j * 2 + i) (by simp; omega)
      rw [getElem!_pos (flatK encS 2 ts.toArray) (j * 2 + i) hlt, e1, e2] at this
      rw [this]
      rw [getElem!_pos ts.toArray j (by simpa using hjl)]
      simp only [List.getElem_toArray, hp]
      rw [getElem!_pos (encS p) i (by simpa [encS] using hi)]
  rw [this]
  exact k32_mkM w base ok p
/-- WHAT IS OWNED IS HELD, and laid anew it is owned again. -/
theorem own_bridge {W : World} {base g n cap : Nat} {ok : Nat → Prop} {xs : List S32} (h : Kd.R k32 32 W base ok (.slice (some ⟨g, 0, none⟩) n cap) xs) :
    n = xs.length ∧ HoldsK encS 2 W g 0 xs.toArray ∧ g < W.heap.size ∧ base ≤ g ∧ ∀ (m : Nat) (os : Array Obj) (d : List S32), d.length = xs.length →
      Kd.R k32 32 (sortWorldK encS 2 W g 0 m d.toArray os) base ok (.slice (some ⟨g, 0, none⟩) n cap) d ∧ W.grownBy (sortWorldK encS 2 W g 0 m d.toArray os) (some g) := by
  have hn := (Kd.R_reads' h).1
  subst hn
  refine ⟨rfl, ?_, ?_⟩
  · intro j hj
    have hj' : j < xs.length * 2 := by simpa using hj
    have hq : j / 2 < xs.length := by omega
    obtain ⟨ce, hcl, hM, hcc, hfr⟩ := Kd.R_elem h z32 ((j / 2 : Nat) : Int) (by omega) (by omega)
    obtain rfl := k32_openM hM
    rw [get_flatK _ _ _ _ (by simpa using hj')]
    rw [Int.toNat_natCast] at hcc hfr
    rw [getElem!_pos xs.toArray (j / 2) (by simpa using hq)]
    have e0 : 0 + j = j / 2 * 2 + j % 2 := by omega
    rw [e0]
    have ex : xs.getD (j / 2) z32 = xs[j / 2] := by simp [List.getD_eq_getElem?_getD, List.getElem?_eq_getElem hq]
    refine ⟨hcc (j % 2) _ ?_, hfr (j % 2)⟩
    rw [ex]
    rcases Nat.mod_two_eq_zero_or_one j with e | e <;> rw [e] <;> simp [encS]
  · obtain ⟨h0, inner, hown, hr⟩ := h
    rcases hown.2 with ⟨e, _⟩ | ⟨g', cap', cur, e, hbase, hb, h1, h2, h3, h4⟩
    · cases e
    · injection e with e1 _ e3
      injection e1 with e1
      injection e1 with e1
      subst e1 e3
      refine ⟨(Array.getElem?_eq_some_iff.1 hb).1, hbase, fun m os d hd => ⟨⟨h0, _, ?_, reps_flat _ _ _ d⟩, grownBy_put _⟩⟩
      have := own_put (w := W) (base := base) (g := g) (cap := cap) (n := xs.length) (k := 2) (m := m) (e := 32) (os := os) (cur := cur) (ts := (flatK encS 2 d.toArray).toList) hbase hb h1 h2 h3 (by simp [hd])
      rw [hd]
      unfold sortWorldK putRowK
      rw [Array.toArray_toList] at this
      exact this
end Go.Proofs.Ytningpmoojnomaa.Pr
