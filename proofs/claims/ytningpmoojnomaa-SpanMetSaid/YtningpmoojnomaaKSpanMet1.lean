/- What the proof of the law needs, trimmed and merged by wip/pack.py out of the texts YtningpmoojnomaaStb, YtningpmoojnomaaExtStb, YtningpmoojnomaaExtSym. No condition. -/
import Derived.Sort.WalkA
import Derived.Sort.LotA
import Derived.Shelf.SlSortCmp.Kit1
import Derived.Shelf.SlSortCmp.Insertion1
import Derived.Sort.WalkB2
import Derived.Sort.WalkB12
import Derived.Deep.LoopGhost
import Derived.Test.YtningpmoojnomaaKSpanMet0
section
namespace Go.Proofs.Ytningpmoojnomaa.Pr
open Go.Sort
set_option linter.unusedVariables false
set_option linter.unusedSimpArgs false
/-- x stands ahead of y: by key, equal ones by index. -/
def Ord (kf : Int → Int) (x y : Int) : Prop := kf x < kf y ∨ (kf x = kf y ∧ x < y)
theorem Ord.trans {kf : Int → Int} {x y z : Int} (h : Ord kf x y) (h' : Ord kf y z) : Ord kf x z := by
  unfold Ord at *
  omega
theorem Ord.ne {kf : Int → Int} {x y : Int} (h : Ord kf x y) : ¬ Ord kf y x := by
  unfold Ord at *
  omega
theorem get_mid (x y : List Int) (u : Int) (n : Nat) (h : n = x.length) : (x ++ u :: y).toArray[n]! = u := by
  subst h
  rw [getElem!_pos _ _ (by simp)]
  simp
theorem swp_mid (x q y : List Int) (u v : Int) (i j : Nat) (hi : i = x.length) (hj : j = x.length + 1 + q.length) : swp (x ++ u :: q ++ v :: y).toArray i j = (x ++ v :: q ++ u :: y).toArray := by
  subst hi hj
  have e1 : (x ++ u :: q ++ v :: y).toArray[x.length]! = u := by
    rw [List.append_assoc]
    exact get_mid x _ u _ rfl
  have e2 : (x ++ u :: q ++ v :: y).toArray[x.length + 1 + q.length]! = v := get_mid (x ++ u :: q) y v _ (by simp; omega)
  unfold swp
  rw [e1, e2]
  apply Array.ext'
  rw [Array.toList_setIfInBounds, Array.toList_setIfInBounds]
  simp only
  rw [show (x ++ u :: q ++ v :: y) = x ++ u :: (q ++ v :: y) by simp, List.set_append_right _ _ (Nat.le_refl _), Nat.sub_self, List.set_cons_zero]
  rw [show x ++ v :: (q ++ v :: y) = (x ++ v :: q) ++ v :: y by simp, List.set_append_right _ _ (by simp; omega)]
  rw [show x.length + 1 + q.length - (x ++ v :: q).length = 0 by simp; omega, List.set_cons_zero]
theorem swp_back (x y : List Int) (u v : Int) (i j : Nat) (hi : i = x.length + 1) (hj : j = x.length) : swp (x ++ u :: v :: y).toArray i j = (x ++ v :: u :: y).toArray := by
  subst hi hj
  have e1 : (x ++ u :: v :: y).toArray[x.length]! = u := get_mid x _ u _ rfl
  have e2 : (x ++ u :: v :: y).toArray[x.length + 1]! = v := by
    rw [show x ++ u :: v :: y = (x ++ [u]) ++ v :: y by simp]
    exact get_mid _ y v _ (by simp)
  unfold swp
  rw [e1, e2]
  apply Array.ext'
  rw [Array.toList_setIfInBounds, Array.toList_setIfInBounds]
  simp only
  rw [show x ++ u :: v :: y = (x ++ [u]) ++ v :: y by simp, List.set_append_right _ _ (by simp), show x.length + 1 - (x ++ [u]).length = 0 by simp, List.set_cons_zero]
  rw [show (x ++ [u]) ++ u :: y = x ++ u :: u :: y by simp, List.set_append_right _ _ (Nat.le_refl _), Nat.sub_self, List.set_cons_zero]
theorem ord_at {kf : Int → Int} {L : List Int} (h : L.Pairwise (Ord kf)) {i j : Nat} (hij : i ≤ j) (hj : j < L.length) : L[i] = L[j] ∨ Ord kf L[i] L[j] := by
  rcases Nat.lt_or_ge i j with hlt | hge
  · exact .inr ((List.pairwise_iff_getElem.1 h) i j (by omega) hj hlt)
  · obtain rfl : i = j := by omega
    exact .inl rfl
theorem key_at {kf : Int → Int} {L : List Int} (h : L.Pairwise (Ord kf)) {i j : Nat} (hij : i ≤ j) (hj : j < L.length) : kf L[i] ≤ kf L[j] := by
  rcases ord_at h hij hj with e | e
  · rw [e]; exact Int.le_refl _
  · unfold Ord at e; omega
theorem sym_split (kf : Int → Int) (L R : List Int) (s t : Nat) (hL : L.Pairwise (Ord kf)) (hR : R.Pairwise (Ord kf)) (hLR : ∀ l ∈ L, ∀ r ∈ R, l < r) (hs : s ≤ L.length) (ht : t ≤ R.length)
    (c1 : s = 0 ∨ t = R.length ∨ ∃ h1 : t < R.length, ∃ h2 : s - 1 < L.length, ¬ kf R[t] < kf L[s - 1]) (c2 : s = L.length ∨ t = 0 ∨ ∃ h1 : t - 1 < R.length, ∃ h2 : s < L.length, kf R[t - 1] < kf L[s]) :
    ∀ x ∈ L.take s ++ R.take t, ∀ y ∈ L.drop s ++ R.drop t, Ord kf x y := by
  intro x hx y hy
  have tk : ∀ (l : List Int) (n : Nat) (z : Int), z ∈ l.take n → ∃ i, ∃ h : i < l.length, i < n ∧ z = l[i] := fun l n z hz => by
    obtain ⟨i, hi, rfl⟩ := List.mem_iff_getElem.1 hz
    rw [List.length_take] at hi
    exact ⟨i, by omega, by omega, by rw [List.getElem_take]⟩
  have dr : ∀ (l : List Int) (n : Nat) (z : Int), z ∈ l.drop n → ∃ i, ∃ h : i < l.length, n ≤ i ∧ z = l[i] := fun l n z hz => by
    obtain ⟨i, hi, rfl⟩ := List.mem_iff_getElem.1 hz
    rw [List.length_drop] at hi
    exact ⟨n + i, by omega, by omega, by rw [List.getElem_drop]⟩
  rcases List.mem_append.1 hx with hx | hx <;> rcases List.mem_append.1 hy with hy | hy
  · obtain ⟨i, hi, his, rfl⟩ := tk _ _ _ hx
    obtain ⟨j, hj, hjs, rfl⟩ := dr _ _ _ hy
    exact (List.pairwise_iff_getElem.1 hL) i j hi hj (by omega)
  · obtain ⟨i, hi, his, rfl⟩ := tk _ _ _ hx
    obtain ⟨j, hj, hjs, rfl⟩ := dr _ _ _ hy
    rcases c1 with c | c | ⟨h1, h2, c⟩
    · omega
    · omega
    · have k1 := key_at hL (show i ≤ s - 1 by omega) h2
      have k2 := key_at hR (show t ≤ j by omega) hj
      have := hLR L[i] (List.getElem_mem hi) R[j] (List.getElem_mem hj)
      unfold Ord
      omega
  · obtain ⟨i, hi, his, rfl⟩ := tk _ _ _ hx
    obtain ⟨j, hj, hjs, rfl⟩ := dr _ _ _ hy
    rcases c2 with c | c | ⟨h1, h2, c⟩
    · omega
    · omega
    · have k1 := key_at hR (show i ≤ t - 1 by omega) h1
      have k2 := key_at hL (show s ≤ j by omega) hj
      unfold Ord
      omega
  · obtain ⟨i, hi, his, rfl⟩ := tk _ _ _ hx
    obtain ⟨j, hj, hjs, rfl⟩ := dr _ _ _ hy
    exact (List.pairwise_iff_getElem.1 hR) i j hi hj (by omega)
theorem sym_join {kf : Int → Int} {L R M1 M2 : List Int} {s t : Nat} (hx : ∀ x ∈ L.take s ++ R.take t, ∀ y ∈ L.drop s ++ R.drop t, Ord kf x y) (h1 : M1.Perm (L.take s ++ R.take t)) (h2 : M2.Perm (L.drop s ++ R.drop t)) (s1 : M1.Pairwise (Ord kf)) (s2 : M2.Pairwise (Ord kf)) :
    (M1 ++ M2).Perm (L ++ R) ∧ (M1 ++ M2).Pairwise (Ord kf) := by
  constructor
  · refine (h1.append h2).trans ?_
    have e : L ++ R = (L.take s ++ L.drop s) ++ (R.take t ++ R.drop t) := by rw [List.take_append_drop, List.take_append_drop]
    rw [e, List.append_assoc, List.append_assoc]
    refine List.Perm.append_left _ ?_
    rw [← List.append_assoc, ← List.append_assoc]
    exact List.Perm.append_right _ List.perm_append_comm
  · rw [List.pairwise_append]
    exact ⟨s1, s2, fun a ha b hb => hx a (h1.mem_iff.1 ha) b (h2.mem_iff.1 hb)⟩
def irange (s e : Nat) : List Int := (List.range' s (e - s)).map (fun i : Nat => (i : Int))
def sub (l : List Int) (s e : Nat) : List Int := (l.drop s).take (e - s)
/-- From place s to place e stand the indexes s to e, in order. -/
def Seg (kf : Int → Int) (l : List Int) (s e : Nat) : Prop := (sub l s e).Pairwise (Ord kf) ∧ (sub l s e).Perm (irange s e)
theorem irange_mem (s e : Nat) (x : Int) : x ∈ irange s e ↔ (s : Int) ≤ x ∧ x < (e : Int) := by
  unfold irange
  rw [List.mem_map]
  constructor
  · rintro ⟨i, hi, rfl⟩
    rw [List.mem_range'_1] at hi
    omega
  · rintro ⟨h1, h2⟩
    exact ⟨x.toNat, by rw [List.mem_range'_1]; omega, by omega⟩
theorem irange_len (s e : Nat) : (irange s e).length = e - s := by unfold irange; simp
theorem irange_append (s m e : Nat) (h1 : s ≤ m) (h2 : m ≤ e) : irange s m ++ irange m e = irange s e := by
  unfold irange
  rw [← List.map_append]
  congr 1
  have := List.range'_append (s := s) (m := m - s) (n := e - m) (step := 1)
  rw [show s + 1 * (m - s) = m by omega, show m - s + (e - m) = e - s by omega] at this
  exact this
theorem irange_lt (s e : Nat) : (irange s e).Pairwise (· < ·) := by
  unfold irange
  rw [List.pairwise_map]
  exact (List.pairwise_lt_range' (s := s) (n := e - s) (step := 1) (by omega)).imp (fun h => by omega)
theorem sub_len (l : List Int) (s e : Nat) (h : e ≤ l.length) : (sub l s e).length = e - s := by unfold sub; simp; omega
/-- A list cut at three places. -/
theorem cut3 (l : List Int) (a m b : Nat) (h1 : a ≤ m) (h2 : m ≤ b) : l = l.take a ++ sub l a m ++ sub l m b ++ l.drop b := by
  unfold sub
  have e1 : l.take a ++ (l.drop a).take (m - a) = l.take m := by
    rw [← List.take_append_drop a (l.take m), List.take_take, Nat.min_eq_left h1, List.drop_take]
  have e2 : l.take m ++ (l.drop m).take (b - m) = l.take b := by
    rw [← List.take_append_drop m (l.take b), List.take_take, Nat.min_eq_left h2, List.drop_take]
  rw [e1, e2, List.take_append_drop]
theorem sub_left (l : List Int) (M Y : List Int) (a s e : Nat) (ha : a ≤ l.length) (he : e ≤ a) : sub (l.take a ++ M ++ Y) s e = sub l s e := by
  unfold sub
  rw [← List.drop_take, ← List.drop_take]
  have e1 : ∀ k : List Int, k.take e = (k.take a).take e := fun k => by rw [List.take_take, Nat.min_eq_left he]
  rw [e1 (l.take a ++ M ++ Y), e1 l, List.append_assoc, List.take_left' (by simp; omega)]
theorem sub_right (l : List Int) (X M : List Int) (b s e : Nat) (hX : (X ++ M).length = b) (hs : b ≤ s) : sub (X ++ M ++ l.drop b) s e = sub l s e := by
  unfold sub
  rw [List.drop_append, hX, List.drop_eq_nil_of_le (by omega), List.nil_append, List.drop_drop]
  rw [show b + (s - b) = s by omega]
theorem sub_mid (X M Y : List Int) (a b : Nat) (hX : X.length = a) (hM : a + M.length = b) : sub (X ++ M ++ Y) a b = M := by
  unfold sub
  rw [List.append_assoc, List.drop_left' hX, List.take_left' (by omega)]
theorem seg_left {kf : Int → Int} {l M Y : List Int} {a s e : Nat} (h : Seg kf l s e) (ha : a ≤ l.length) (he : e ≤ a) : Seg kf (l.take a ++ M ++ Y) s e := by
  unfold Seg
  rw [sub_left l M Y a s e ha he]
  exact h
theorem seg_right {kf : Int → Int} {l X M : List Int} {b s e : Nat} (h : Seg kf l s e) (hX : (X ++ M).length = b) (hs : b ≤ s) : Seg kf (X ++ M ++ l.drop b) s e := by
  unfold Seg
  rw [sub_right l X M b s e hX hs]
  exact h
instance ordDec (kf : Int → Int) (x y : Int) : Decidable (Ord kf x y) := inferInstanceAs (Decidable (_ ∨ _))
/-- The one order of the indexes 0 to n by a key. -/
def byL (kf : Int → Int) (n : Nat) : List Int := (irange 0 n).mergeSort (fun x y => decide (Ord kf x y ∨ x = y))
theorem byL_perm (kf : Int → Int) (n : Nat) : (byL kf n).Perm (irange 0 n) := List.mergeSort_perm _ _
theorem irange_nodup (s e : Nat) : (irange s e).Nodup := (irange_lt s e).imp (fun h => by omega)
theorem byL_sorted (kf : Int → Int) (n : Nat) : (byL kf n).Pairwise (Ord kf) := by
  have h := List.pairwise_mergeSort (le := fun x y : Int => decide (Ord kf x y ∨ x = y)) (fun a b c h1 h2 => by
    simp only [decide_eq_true_eq] at *
    rcases h1 with h1 | rfl
    · rcases h2 with h2 | rfl
      · exact .inl (h1.trans h2)
      · exact .inl h1
    · exact h2) (fun a b => by
    simp only [Bool.or_eq_true, decide_eq_true_eq]
    unfold Ord
    omega) (irange 0 n)
  have hn : (byL kf n).Nodup := (byL_perm kf n).nodup_iff.2 (irange_nodup 0 n)
  refine (h.and hn).imp (fun {x y} hxy => ?_)
  obtain ⟨h1, h2⟩ := hxy
  simp only [decide_eq_true_eq] at h1
  rcases h1 with h1 | h1
  · exact h1
  · exact absurd h1 h2
theorem sorted_unique {kf : Int → Int} : ∀ {l l' : List Int}, l.Pairwise (Ord kf) → l'.Pairwise (Ord kf) → l.Perm l' → l = l'
  | [], l', _, _, h => (List.nil_perm.1 h).symm ▸ rfl
  | x :: t, [], _, _, h => absurd h.length_eq (by simp)
  | x :: t, y :: t', h1, h2, h => by
    rw [List.pairwise_cons] at h1 h2
    have hx : x ∈ y :: t' := h.mem_iff.1 List.mem_cons_self
    have hy : y ∈ x :: t := h.mem_iff.2 List.mem_cons_self
    have e : x = y := by
      rcases List.mem_cons.1 hx with hx | hx
      · exact hx
      · rcases List.mem_cons.1 hy with hy | hy
        · exact hy.symm
        · exact absurd (h1.1 y hy) (h2.1 x hx).ne
    subst e
    rw [sorted_unique h1.2 h2.2 (List.perm_cons x |>.1 h)]
theorem byL_unique {kf : Int → Int} {n : Nat} {l : List Int} (h : l.Pairwise (Ord kf)) (hp : l.Perm (irange 0 n)) : l = byL kf n := sorted_unique h (byL_sorted kf n) (hp.trans (byL_perm kf n).symm)
theorem sub_all (l : List Int) (n : Nat) (h : l.length = n) : sub l 0 n = l := by
  unfold sub
  rw [List.drop_zero, Nat.sub_zero, List.take_of_length_le (by omega)]
theorem seg_all {kf : Int → Int} {l : List Int} {n : Nat} (hn : l.length = n) (h : Seg kf l 0 n) : l = byL kf n := by
  obtain ⟨h1, h2⟩ := h
  rw [sub_all l n hn] at h1 h2
  exact byL_unique h1 h2
end Go.Proofs.Ytningpmoojnomaa.Pr
end
section
namespace Go.Proofs.Ytningpmoojnomaa.Pr
open Go.Shelf Go.RowKit Go.Lib Go.Sort Go.Proofs.YtningpmoojnomaaW.PrintWords
set_option linter.unusedVariables false
set_option linter.unusedSimpArgs false
abbrev eI : Int → Value := Value.int .i64
theorem swap_at (x p q r y : List Int) (i : Nat) (hi : i < p.length) (hr : p.length = r.length) :
    swp (x ++ (r.take i ++ p.drop i) ++ q ++ (p.take i ++ r.drop i) ++ y).toArray (x.length + i) (x.length + p.length + q.length + i) = (x ++ (r.take (i + 1) ++ p.drop (i + 1)) ++ q ++ (p.take (i + 1) ++ r.drop (i + 1)) ++ y).toArray := by
  have hir : i < r.length := by omega
  have e := swp_mid (x ++ r.take i) (p.drop (i + 1) ++ q ++ p.take i) (r.drop (i + 1) ++ y) p[i] r[i] (x.length + i) (x.length + p.length + q.length + i) (by simp; omega) (by simp; omega)
  have e1 : x ++ (r.take i ++ p.drop i) ++ q ++ (p.take i ++ r.drop i) ++ y = x ++ r.take i ++ p[i] :: (p.drop (i + 1) ++ q ++ p.take i) ++ r[i] :: (r.drop (i + 1) ++ y) := by
    rw [List.drop_eq_getElem_cons hi, List.drop_eq_getElem_cons hir]
    simp only [List.append_assoc, List.cons_append, List.nil_append]
  have e2 : x ++ (r.take (i + 1) ++ p.drop (i + 1)) ++ q ++ (p.take (i + 1) ++ r.drop (i + 1)) ++ y = x ++ r.take i ++ r[i] :: (p.drop (i + 1) ++ q ++ p.take i) ++ p[i] :: (r.drop (i + 1) ++ y) := by
    rw [List.take_succ_eq_append_getElem hi, List.take_succ_eq_append_getElem hir]
    simp only [List.append_assoc, List.cons_append, List.nil_append]
  rw [e1, e2, e]
set_option maxHeartbeats 4000000 in
set_option maxRecDepth 1000000 in
theorem swapRange_c (g : Nat) (cb : Array Value) (blk off cap N a b n : Nat) (d0 : Array Int) (w0 w : World) (x p q r y : List Int) (R : Row1 eI w0 blk off d0) (hr : p.length = r.length) (hs : d0.size = N) (hN : (x ++ p ++ q ++ r ++ y).length = N)
    (S : SW eI w0 blk off (x ++ p ++ q ++ r ++ y).toArray w) (ha : a = x.length) (hb : b = x.length + p.length + q.length) (hn : n = p.length) (hsz : N < 4611686018427387904) :
    Calls Try.prog 134 #[.slice (some ⟨blk, off, none⟩) N cap, .int .i64 a, .int .i64 b, .int .i64 n, .func (.func g) #[] cb] w fun e w' => e = .returned (.tuple #[]) ∧ SW eI w0 blk off (x ++ r ++ q ++ p ++ y).toArray w' := by
  have hcl0 := R.hO.cells
  simp only [Value.cells] at hcl0
  have hst := R.hO.store Try.prog
  have u33 := Try.underlying33
  have S0 : Aside (SW eI w0 blk off (x ++ p ++ q ++ r ++ y).toArray w) := S
  have hlen : x.length + p.length + q.length + r.length ≤ N := by rw [← hN]; simp; omega
  have HA := Aside0.mk ha
  have HBB := Aside0.mk hb
  have HN := Aside0.mk hn
  have hA : a = x.length := ha
  have hBl : a + n ≤ b ∧ b + n ≤ N := by omega
  clear S ha hb hn hA
  go_enter Try.func134, Try.ntmps134
  go_wp2
  go_loopg [10] n (fun kx s8 wr => ∃ (i : Nat), s8 = .int .i64 i ∧ i ≤ n ∧ n - i ≤ kx ∧ Aside (SW eI w0 blk off (x ++ (r.take i ++ p.drop i) ++ q ++ (p.take i ++ r.drop i) ++ y).toArray wr))
  case atStart => exact ⟨0, rfl, by omega, by omega, (show Aside _ from by simpa using S0)⟩
  case round =>
    clear S0
    obtain ⟨i, rfl, hin, hkx, S1⟩ := hrel
    by_cases hlt : i < n
    · have hltz : (i : Int) < (n : Int) := by omega
      have hip : i < p.length := by have := HN.out; omega
      have hir : i < r.length := by have := HN.out; omega
      obtain ⟨dk, hdk⟩ : ∃ dk, dk = (x ++ (r.take i ++ p.drop i) ++ q ++ (p.take i ++ r.drop i) ++ y).toArray := ⟨_, rfl⟩
      have hds : dk.size = N := by rw [hdk, ← hN]; simp; have := HN.out; omega
      have hsw : swp dk (a + i) (b + i) = (x ++ (r.take (i + 1) ++ p.drop (i + 1)) ++ q ++ (p.take (i + 1) ++ r.drop (i + 1)) ++ y).toArray := by rw [hdk, HA.out, HBB.out]; exact swap_at x p q r y i hip hr
      rw [← hdk] at S1
      obtain ⟨iN, hiN⟩ : ∃ q, q = a + i := ⟨_, rfl⟩
      obtain ⟨jN, hjN⟩ : ∃ q, q = b + i := ⟨_, rfl⟩
      have ra1 : IntKind.i64.wrap ((a : Int) + (i : Int)) = (a : Int) + (i : Int) := by rw [IntKind.wrap_i64]; omega
      have rb1 : IntKind.i64.wrap ((b : Int) + (i : Int)) = (b : Int) + (i : Int) := by rw [IntKind.wrap_i64]; omega
      have ea1 : ((a : Int) + (i : Int)).toNat = iN := by omega
      have pa1 : (0 : Int) ≤ (a : Int) + (i : Int) := by omega
      have ba1 : (a : Int) + (i : Int) < (N : Int) := by omega
      have ec1 : ((b : Int) + (i : Int)).toNat = jN := by omega
      have pc1 : (0 : Int) ≤ (b : Int) + (i : Int) := by omega
      have bc1 : (b : Int) + (i : Int) < (N : Int) := by omega
      obtain ⟨x1, hx1⟩ : ∃ x, x = dk[a + i]! := ⟨_, rfl⟩
      obtain ⟨y1, hy1⟩ : ∃ x, x = dk[b + i]! := ⟨_, rfl⟩
      have S2 : Aside (SW eI w0 blk off (swp dk (a + i) (b + i)) ((wr.setCell ⟨blk, off + iN, none⟩ (eI y1)).setCell ⟨blk, off + jN, none⟩ (eI x1)).drew) := by rw [hiN, hjN, hx1, hy1]; exact S1.out.swapped R (a + i) (b + i) (by omega) (by omega)
      have c1a := S1.out.c1 R (by omega) (a + i) (by omega)
      have c1b := S1.out.c1 R (by omega) (b + i) (by omega)
      have f1a := S1.out.f1 R (by omega) (a + i) (by omega)
      have f1b := S1.out.f1 R (by omega) (b + i) (by omega)
      obtain ⟨u1, c1c⟩ := S1.out.c2 R (by omega) (a + i) (b + i) (by omega) (by omega) (eI y1)
      rw [← hjN, ← hiN] at c1c
      rw [← hx1, ← hiN] at c1a
      rw [← hy1, ← hjN] at c1b
      rw [← hiN] at f1a
      rw [← hjN] at f1b
      rw [hsw] at S2
      clear S1 hx1 hy1 hiN hjN hsw hdk hds hip hir
      go_wp2_with fail
      go_big_region
      clear c1a c1b c1c f1a f1b
      generalize ((wr.setCell ⟨blk, off + iN, none⟩ (eI y1)).setCell ⟨blk, off + jN, none⟩ (eI x1)).drew = w2 at S2 ⊢
      clear ea1 ec1
      go_wp2
      go_roundg (n - (i + 1))
      case measure => omega
      case rel => exact ⟨i + 1, by go_num, by omega, by omega, S2⟩
    · have hltz : ¬ (i : Int) < (n : Int) := by omega
      obtain rfl : i = n := by omega
      go_wp2
      go_end0
      refine ⟨rfl, ?_⟩
      have h := S1.out
      have := HN.out
      rw [List.take_of_length_le (show r.length ≤ i by omega), List.take_of_length_le (show p.length ≤ i by omega), List.drop_eq_nil_of_le (show p.length ≤ i by omega), List.drop_eq_nil_of_le (show r.length ≤ i by omega), List.append_nil] at h
      simpa [List.append_assoc] using h
set_option maxHeartbeats 4000000 in
set_option maxRecDepth 1000000 in
theorem rotate_c (g : Nat) (cb : Array Value) (blk off cap N a m b : Nat) (d0 : Array Int) (w0 w : World) (x u v y : List Int) (R : Row1 eI w0 blk off d0) (hs : d0.size = N) (hN : (x ++ u ++ v ++ y).length = N)
    (S : SW eI w0 blk off (x ++ u ++ v ++ y).toArray w) (ha : a = x.length) (hm : m = x.length + u.length) (hb : b = x.length + u.length + v.length) (hu : 0 < u.length) (hv : 0 < v.length) (hsz : N < 4611686018427387904) :
    Calls Try.prog 124 #[.slice (some ⟨blk, off, none⟩) N cap, .int .i64 a, .int .i64 m, .int .i64 b, .func (.func g) #[] cb] w fun e w' => e = .returned (.tuple #[]) ∧ SW eI w0 blk off (x ++ v ++ u ++ y).toArray w' := by
  have S0 : Aside (SW eI w0 blk off (x ++ u ++ v ++ y).toArray w) := S
  have HL := Aside0.mk (show x.length + u.length + v.length + y.length = N by rw [← hN]; simp only [List.length_append])
  have HA := Aside0.mk ha
  have HMM := Aside0.mk hm
  have HBB := Aside0.mk hb
  have hl : a < m ∧ m < b ∧ b ≤ N := by have := HL.out; omega
  have HU := Aside0.mk (show m - a = u.length by omega)
  have HV := Aside0.mk (show b - m = v.length by omega)
  clear S ha hm hb hN hu hv
  have HSW := Aside0.mk (fun w a b n x p q r y h1 h2 h3 h4 h5 h6 => swapRange_c g cb blk off cap N a b n d0 w0 w x p q r y R h1 hs h2 h3 h4 h5 h6 hsz)
  go_enter Try.func124, Try.ntmps124
  go_wp2
  go_loopg [10, 11] (b - a) (fun kx s10 s11 wr => ∃ (i j k : Nat) (X U V Y : List Int), s10 = .int .i64 i ∧ s11 = .int .i64 j ∧ 0 < i ∧ 0 < j ∧ k + i = m ∧ m + j ≤ N ∧ i + j ≤ kx ∧ Aside0 (U.length = i) ∧ Aside0 (V.length = j) ∧ Aside0 (X.length = k) ∧ Aside0 (X.length + U.length + V.length + Y.length = N) ∧ Aside0 (X ++ V ++ U ++ Y = x ++ v ++ u ++ y) ∧ Aside (SW eI w0 blk off (X ++ U ++ V ++ Y).toArray wr))
  case atStart => exact ⟨m - a, b - m, a, x, u, v, y, by go_num, by go_num, by omega, by omega, by omega, by omega, by omega, ⟨HU.out.symm⟩, ⟨HV.out.symm⟩, ⟨HA.out.symm⟩, HL, ⟨rfl⟩, S0⟩
  case round =>
    clear S0
    obtain ⟨i, j, k, X, U, V, Y, rfl, rfl, hi, hj, hki, hjN, hkx, HU1, HV1, HX1, HL1, HT, S1⟩ := hrel
    have hmi : (m : Int) - (i : Int) = (k : Int) := by omega
    have HKI := Aside0.mk hki
    clear hki
    rcases (by omega : i = j ∨ i > j ∨ i < j) with hij | hij | hij
    · subst hij
      have hc := HSW.out wr k m i X U [] V Y (by rw [HU1.out, HV1.out]) (by simp only [List.length_append, List.length_nil]; have := HL1.out; omega) (by have := S1.out; simpa using this) HX1.out.symm (by have := HKI.out; have := HX1.out; have := HU1.out; simp; omega) HU1.out.symm
      go_wp2_with fail
      go_wp2_with (go_at_call 134; refine hc.mono ?_; rintro e w2 ⟨rfl, hS⟩)
      go_end0
      refine ⟨rfl, ?_⟩
      have := HT.out
      rw [List.append_nil, this] at hS
      exact hS
    · have hg : (j : Int) < (i : Int) := by omega
      have hne : ¬ (i : Int) = (j : Int) := by omega
      have hcc := HSW.out wr k m j X (U.take j) (U.drop j) V Y (by rw [List.length_take, HV1.out, HU1.out]; omega) (by rw [← HL1.out]; simp only [List.length_append, List.length_take, List.length_drop, HU1.out]; omega) (by have := S1.out; rw [List.append_assoc X, List.take_append_drop]; exact this) HX1.out.symm (by simp only [List.length_take, List.length_drop, HU1.out, HX1.out]; have := HKI.out; omega) (by rw [List.length_take, HU1.out]; omega)
      go_wp2_with (go_at_call 134; refine hcc.mono ?_; rintro e w2 ⟨rfl, hS⟩)
      have S2 : Aside (SW eI w0 blk off (X ++ V ++ U.drop j ++ U.take j ++ Y).toArray w2) := hS
      clear hS hcc
      have hij2 : (i : Int) - (j : Int) = ((i - j : Nat) : Int) := by omega
      go_wp2
      go_roundg (i - j + j)
      case measure => omega
      case rel => exact ⟨i - j, j, k + j, X ++ V, U.drop j, U.take j, Y, by go_num, rfl, by omega, by omega, by have := HKI.out; omega, by omega, by omega, ⟨by rw [List.length_drop, HU1.out]⟩, ⟨by rw [List.length_take, HU1.out]; omega⟩, ⟨by rw [List.length_append, HX1.out, HV1.out]⟩, ⟨by rw [← HL1.out]; simp only [List.length_append, List.length_take, List.length_drop, HU1.out]; omega⟩, ⟨by rw [← HT.out, List.append_assoc (X ++ V), List.take_append_drop]⟩, S2⟩
    · have hg : ¬ (j : Int) < (i : Int) := by omega
      have hne : ¬ (i : Int) = (j : Int) := by omega
      have hmj : (m : Int) + (j : Int) - (i : Int) = ((m + j - i : Nat) : Int) := by omega
      have hcc := HSW.out wr k (m + j - i) i X U (V.take (j - i)) (V.drop (j - i)) Y (by rw [List.length_drop, HV1.out, HU1.out]; omega) (by rw [← HL1.out]; simp only [List.length_append, List.length_take, List.length_drop, HV1.out]; omega) (by have := S1.out; rw [List.append_assoc (X ++ U), List.take_append_drop]; exact this) HX1.out.symm (by simp only [List.length_take, HU1.out, HX1.out, HV1.out]; have := HKI.out; omega) HU1.out.symm
      go_wp2_with (go_at_call 134; refine hcc.mono ?_; rintro e w2 ⟨rfl, hS⟩)
      have S2 : Aside (SW eI w0 blk off (X ++ V.drop (j - i) ++ V.take (j - i) ++ (U ++ Y)).toArray w2) := by rw [← List.append_assoc]; exact hS
      clear hS hcc
      have hij2 : (j : Int) - (i : Int) = ((j - i : Nat) : Int) := by omega
      go_wp2
      go_roundg (i + (j - i))
      case measure => omega
      case rel => exact ⟨i, j - i, k, X, V.drop (j - i), V.take (j - i), U ++ Y, rfl, by go_num, by omega, by omega, by have := HKI.out; omega, by omega, by omega, ⟨by rw [List.length_drop, HV1.out]; omega⟩, ⟨by rw [List.length_take, HV1.out]; omega⟩, HX1, ⟨by rw [← HL1.out]; simp only [List.length_append, List.length_take, List.length_drop, HV1.out]; omega⟩, ⟨by rw [← HT.out, ← List.append_assoc, List.append_assoc X, List.take_append_drop]⟩, S2⟩
end Go.Proofs.Ytningpmoojnomaa.Pr
end
section
namespace Go.Proofs.Ytningpmoojnomaa.Pr
open Go.Shelf Go.RowKit Go.Lib Go.Sort Go.Proofs.YtningpmoojnomaaW.PrintWords
set_option linter.unusedVariables false
set_option linter.unusedSimpArgs false
def cfK (kf : Int → Int) (x y : Int) : Int := Lib.compareInt (kf x) (kf y)
theorem cfK_lt (kf : Int → Int) (x y : Int) : cfK kf x y < 0 ↔ kf x < kf y := by
  unfold cfK Lib.compareInt
  by_cases h : kf x < kf y
  · simp [h]
  · by_cases h2 : kf x > kf y
    · simp [h, h2]
    · simp [h, h2]
/-- What is asked of the comparison: at two indexes below N it answers by the key; it may lay blocks and turns nothing. -/
def CmpOn (kf : Int → Int) (g : Nat) (cb : Array Value) (blk off N : Nat) (w : World) : Prop :=
  ∀ (m : Nat) (os : Array Obj) (dk : Array Int), dk.size = N → ∀ x y : Int, (0 ≤ x ∧ x < (N : Int)) → (0 ≤ y ∧ y < (N : Int)) →
    Calls Try.prog g (#[eI x, eI y] ++ cb) (sortWorld eI w blk off m dk os) fun e w' => e = .returned (.int .i64 (cfK kf x y)) ∧ ∃ q os', w' = grow ((sortWorld eI w blk off m dk os).drewN q) os'
theorem sw_cmpOn {kf : Int → Int} {g : Nat} {cb : Array Value} {blk off N : Nat} {w0 W : World} {dk : Array Int} (h : SW eI w0 blk off dk W) (hC : CmpOn kf g cb blk off N w0) (hs : dk.size = N) (x y : Int) (hx : 0 ≤ x ∧ x < (N : Int)) (hy : 0 ≤ y ∧ y < (N : Int)) (n : Nat) (os : Array Obj) :
    Calls Try.prog g (#[eI x, eI y] ++ cb) (grow (W.drewN n) os) fun e w' => e = .returned (.int .i64 (cfK kf x y)) ∧ ∃ q os', w' = grow ((grow (W.drewN n) os).drewN q) os' := by
  obtain ⟨m, os0, hw⟩ := h.grown n os
  rw [hw]
  exact hC m os0 dk hs x y hx hy
theorem all_idx {N : Nat} {l : List Int} (h : ∀ x ∈ l, 0 ≤ x ∧ x < (N : Int)) (i : Nat) (hi : i < l.length) : 0 ≤ l.toArray[i]! ∧ l.toArray[i]! < (N : Int) := by
  rw [getElem!_pos l.toArray i (by simpa using hi)]
  simp only [List.getElem_toArray]
  exact h _ (List.getElem_mem hi)
theorem mixedT : Try.prog.follows .mixedOrders = true := by kernel_rfl
theorem at_idx (l : List Int) (i : Nat) (h : i < l.length) : l.toArray[i]! = l[i] := by
  rw [getElem!_pos l.toArray i (by simpa using h)]
  simp
theorem at_idx_mid (X M Y : List Int) (i k : Nat) (hi : i = X.length + k) (hk : k < M.length) : (X ++ M ++ Y).toArray[i]! = M[k] := by
  subst hi
  rw [at_idx _ _ (by simp; omega), List.getElem_append_left (by simp; omega), List.getElem_append_right (by omega)]
  simp
theorem tk_mem {l : List Int} {n : Nat} {z : Int} (hz : z ∈ l.take n) : ∃ i, ∃ h : i < l.length, i < n ∧ z = l[i] := by
  obtain ⟨i, hi, rfl⟩ := List.mem_iff_getElem.1 hz
  rw [List.length_take] at hi
  exact ⟨i, by omega, by omega, by rw [List.getElem_take]⟩
theorem dr_mem {l : List Int} {n : Nat} {z : Int} (hz : z ∈ l.drop n) : ∃ i, ∃ h : i < l.length, n ≤ i ∧ z = l[i] := by
  obtain ⟨i, hi, rfl⟩ := List.mem_iff_getElem.1 hz
  rw [List.length_drop] at hi
  exact ⟨n + i, by omega, by omega, by rw [List.getElem_drop]⟩
theorem put_mid {kf : Int → Int} {z : Int} {l : List Int} (q : Nat) (hl : l.Pairwise (Ord kf)) (h1 : ∀ x ∈ l.take q, Ord kf x z) (h2 : ∀ x ∈ l.drop q, Ord kf z x) : (l.take q ++ z :: l.drop q).Perm (z :: l) ∧ (l.take q ++ z :: l.drop q).Pairwise (Ord kf) := by
  constructor
  · refine List.perm_middle.trans ?_
    rw [List.take_append_drop]
  · have hl' := hl
    rw [← List.take_append_drop q l, List.pairwise_append] at hl'
    rw [List.pairwise_append, List.pairwise_cons]
    refine ⟨hl'.1, ⟨h2, hl'.2.1⟩, fun x hx y hy => ?_⟩
    rcases List.mem_cons.1 hy with rfl | hy
    · exact h1 x hx
    · exact hl'.2.2 x hx y hy
theorem swp_fwd (X Y l : List Int) (z : Int) (q i : Nat) (hq : q < l.length) (hi : i = X.length + q) : swp (X ++ (l.take q ++ z :: l.drop q) ++ Y).toArray i (i + 1) = (X ++ (l.take (q + 1) ++ z :: l.drop (q + 1)) ++ Y).toArray := by
  have e := swp_mid (X ++ l.take q) [] (l.drop (q + 1) ++ Y) z l[q] i (i + 1) (by simp; omega) (by simp; omega)
  rw [List.drop_eq_getElem_cons hq, List.take_succ_eq_append_getElem hq]
  simp only [List.append_assoc, List.cons_append, List.nil_append] at e ⊢
  exact e
theorem swp_bwd (X Y l : List Int) (z : Int) (q i : Nat) (hq : q < l.length) (hi : i = X.length + (q + 1)) : swp (X ++ (l.take (q + 1) ++ z :: l.drop (q + 1)) ++ Y).toArray i (i - 1) = (X ++ (l.take q ++ z :: l.drop q) ++ Y).toArray := by
  have e := swp_back (X ++ l.take q) (l.drop (q + 1) ++ Y) l[q] z i (i - 1) (by simp; omega) (by simp; omega)
  rw [List.drop_eq_getElem_cons hq, List.take_succ_eq_append_getElem hq]
  simp only [List.append_assoc, List.cons_append, List.nil_append] at e ⊢
  exact e
set_option maxHeartbeats 8000000 in
set_option maxRecDepth 1000000 in
theorem symOne_c (kf : Int → Int) (g : Nat) (cb : Array Value) (blk off cap N : Nat) (d0 : Array Int) (w0 : World) (R : Row1 eI w0 blk off d0) (hs : d0.size = N) (hcmp : CmpOn kf g cb blk off N w0) (eg : ∀ args w, (callFunc g args).run Try.prog w = .ok (.enter g args) w) (hsz : N < 4611686018427387904) (w : World) (a m b : Nat) (X Rr Y : List Int) (z : Int) (ha : a = X.length) (hm : m = X.length + 1) (hb : b = X.length + 1 + Rr.length) (hN : (X ++ z :: Rr ++ Y).length = N) (hR : Rr.Pairwise (Ord kf)) (hz : ∀ r ∈ Rr, z < r) (hP : ∀ x ∈ X ++ z :: Rr ++ Y, 0 ≤ x ∧ x < (N : Int))
    (S : SW eI w0 blk off (X ++ z :: Rr ++ Y).toArray w) :
    Calls Try.prog 121 #[.slice (some ⟨blk, off, none⟩) N cap, .int .i64 a, .int .i64 m, .int .i64 b, .func (.func g) #[] cb] w fun e w' => e = .returned (.tuple #[]) ∧ ∃ M, M.Perm (z :: Rr) ∧ M.Pairwise (Ord kf) ∧ SW eI w0 blk off (X ++ M ++ Y).toArray w' := by
  have mixed := mixedT
  have hcl0 := R.hO.cells
  simp only [Value.cells] at hcl0
  have hst := R.hO.store Try.prog
  have u33 := Try.underlying33
  have HC : Aside _ := hcmp
  have HR := Aside0.mk hR
  have HZ := Aside0.mk hz
  have hl : a + 1 = m ∧ m ≤ b ∧ b ≤ N := by rw [← hN]; simp; omega
  have HA := Aside0.mk ha
  have HRL := Aside0.mk (show m + Rr.length = b by omega)
  obtain ⟨dk, hdk⟩ : ∃ dk, dk = (X ++ z :: Rr ++ Y).toArray := ⟨_, rfl⟩
  have hds : dk.size = N := by rw [hdk, ← hN]; simp
  have HALL := Aside0.mk (show ∀ i, i < N → 0 ≤ dk[i]! ∧ dk[i]! < (N : Int) from fun i hi => by rw [hdk]; exact all_idx hP i (by rw [hN]; exact hi))
  have HA0 := Aside0.mk (show dk[a]! = z by rw [hdk, ha, List.append_assoc]; exact get_mid _ _ z _ rfl)
  have HAT := Aside0.mk (show ∀ k, (hk : k < Rr.length) → dk[m + k]! = Rr[k] from fun k hk => by
    rw [hdk, show X ++ z :: Rr ++ Y = (X ++ [z]) ++ Rr ++ Y by simp]
    exact at_idx_mid _ _ _ _ k (by simp; omega) hk)
  rw [← hdk] at S
  have HDK := Aside0.mk hdk
  have S0 : Aside (SW eI w0 blk off dk w) := S
  clear S hcmp ha hm hb hN hR hz hP hdk
  have hma : IntKind.i64.wrap ((m : Int) - (a : Int)) = 1 := by rw [IntKind.wrap_i64]; omega
  have hma' : (m : Int) - (a : Int) = 1 := by omega
  go_enter Try.func121, Try.ntmps121
  go_wp2
  go_loopg [10, 11] (b - m) (fun kx s10 s11 wr => ∃ (i j : Nat), s10 = .int .i64 i ∧ s11 = .int .i64 j ∧ m ≤ i ∧ i ≤ j ∧ j ≤ b ∧ j - i ≤ kx ∧ Aside0 (∀ k, (hk : k < Rr.length) → m + k < i → kf Rr[k] < kf z) ∧ Aside0 (∀ k, (hk : k < Rr.length) → j ≤ m + k → ¬ kf Rr[k] < kf z) ∧ Aside (SW eI w0 blk off dk wr))
  case atStart => exact ⟨m, b, rfl, rfl, by omega, by omega, by omega, by omega, ⟨fun k hk h => by omega⟩, ⟨fun k hk h => by have := HRL.out; omega⟩, S0⟩
  case round =>
    clear S0
    obtain ⟨i, j, rfl, rfl, hmi, hij, hjb, hkx, HI, HJ, S1⟩ := hrel
    by_cases hlt : i < j
    · have hltz : (i : Int) < (j : Int) := by omega
      obtain ⟨h, hh⟩ : ∃ h : Nat, h = (i + j) / 2 := ⟨_, rfl⟩
      have hhz : ((i : Int) + (j : Int)) / 2 = (h : Int) := by omega
      have hhb : m ≤ h ∧ i ≤ h ∧ h < j := by omega
      have HH := Aside0.mk hh
      clear hh
      have hrk : h - m < Rr.length := by have := HRL.out; omega
      have hat : dk[h]! = Rr[h - m] := by have := HAT.out (h - m) hrk; rwa [show m + (h - m) = h by omega] at this
      have HK := Aside0.mk hrk
      have HT := Aside0.mk (show cfK kf dk[h]! dk[a]! < 0 ↔ kf Rr[h - m] < kf z by rw [cfK_lt, hat, HA0.out])
      clear hat
      by_cases hcf : cfK kf dk[h]! dk[a]! < 0
      · have HF := Aside0.mk (HT.out.1 hcf)
        obtain ⟨iN1, hiN1⟩ : ∃ qq, qq = h := ⟨_, rfl⟩
        obtain ⟨jN1, hjN1⟩ : ∃ qq, qq = a := ⟨_, rfl⟩
        have ea1 : ((h : Int)).toNat = iN1 := by omega
        have pa1 : (0 : Int) ≤ (h : Int) := by omega
        have ba1 : (h : Int) < (N : Int) := by omega
        have ec1 : ((a : Int)).toNat = jN1 := by omega
        have pc1 : (0 : Int) ≤ (a : Int) := by omega
        have bc1 : (a : Int) < (N : Int) := by omega
        have ra1 : IntKind.i64.wrap ((h : Int)) = (h : Int) := by rw [IntKind.wrap_i64]; omega
        have rc1 : IntKind.i64.wrap ((a : Int)) = (a : Int) := by rw [IntKind.wrap_i64]; omega
        obtain ⟨x1, hx1⟩ : ∃ x, x = dk[h]! := ⟨_, rfl⟩
        obtain ⟨y1, hy1⟩ : ∃ x, x = dk[a]! := ⟨_, rfl⟩
        have l1a := S1.out.cl R (by rw [hds, hs]) (h) (by omega)
        have l1b := S1.out.cl R (by rw [hds, hs]) (a) (by omega)
        rw [← hx1, ← hiN1] at l1a
        rw [← hy1, ← hjN1] at l1b
        have hc1 := sw_cmpOn S1.out HC.out hds x1 y1 (by rw [hx1]; exact HALL.out (h) (by omega)) (by rw [hy1]; exact HALL.out (a) (by omega))
        have hv1 : cfK kf x1 y1 < 0 := by rw [hx1, hy1]; exact hcf
        have hd1 : decide (cfK kf x1 y1 < 0) = true := decide_eq_true hv1
        clear hx1 hy1 hiN1 hjN1 hcf
        go_wp2_with fail
        go_quiet_grown (first | (go_at_fn g; refine Calls.grown_of (hc1 _ _)))
        have S2 : Aside (SW eI w0 blk off dk (grow (wr.drewN nq) osq)) := S1.out.grown nq osq
        clear l1a l1b hc1 S1
        generalize grow (wr.drewN nq) osq = w2 at S2 ⊢
        clear nq osq
        clear ea1 ec1
        go_wp2
        go_roundg (j - (h + 1))
        case measure => omega
        case rel =>
          refine ⟨h + 1, j, by go_num, rfl, by omega, by omega, by omega, by omega, ⟨fun k hk hki => ?_⟩, HJ, S2⟩
          have := key_at HR.out (show k ≤ h - m by omega) HK.out
          have := HF.out
          omega
      · have HF := Aside0.mk (show ¬ kf Rr[h - m] < kf z from fun h => hcf (HT.out.2 h))
        obtain ⟨iN2, hiN2⟩ : ∃ qq, qq = h := ⟨_, rfl⟩
        obtain ⟨jN2, hjN2⟩ : ∃ qq, qq = a := ⟨_, rfl⟩
        have ea2 : ((h : Int)).toNat = iN2 := by omega
        have pa2 : (0 : Int) ≤ (h : Int) := by omega
        have ba2 : (h : Int) < (N : Int) := by omega
        have ec2 : ((a : Int)).toNat = jN2 := by omega
        have pc2 : (0 : Int) ≤ (a : Int) := by omega
        have bc2 : (a : Int) < (N : Int) := by omega
        have ra2 : IntKind.i64.wrap ((h : Int)) = (h : Int) := by rw [IntKind.wrap_i64]; omega
        have rc2 : IntKind.i64.wrap ((a : Int)) = (a : Int) := by rw [IntKind.wrap_i64]; omega
        obtain ⟨x2, hx2⟩ : ∃ x, x = dk[h]! := ⟨_, rfl⟩
        obtain ⟨y2, hy2⟩ : ∃ x, x = dk[a]! := ⟨_, rfl⟩
        have l2a := S1.out.cl R (by rw [hds, hs]) (h) (by omega)
        have l2b := S1.out.cl R (by rw [hds, hs]) (a) (by omega)
        rw [← hx2, ← hiN2] at l2a
        rw [← hy2, ← hjN2] at l2b
        have hc2 := sw_cmpOn S1.out HC.out hds x2 y2 (by rw [hx2]; exact HALL.out (h) (by omega)) (by rw [hy2]; exact HALL.out (a) (by omega))
        have hv2 : ¬ cfK kf x2 y2 < 0 := by rw [hx2, hy2]; exact hcf
        have hd2 : decide (cfK kf x2 y2 < 0) = false := decide_eq_false hv2
        clear hx2 hy2 hiN2 hjN2 hcf
        go_wp2_with fail
        go_quiet_grown (first | (go_at_fn g; refine Calls.grown_of (hc2 _ _)))
        have S2 : Aside (SW eI w0 blk off dk (grow (wr.drewN nq) osq)) := S1.out.grown nq osq
        clear l2a l2b hc2 S1
        generalize grow (wr.drewN nq) osq = w2 at S2 ⊢
        clear nq osq
        clear ea2 ec2
        go_wp2
        go_roundg (h - i)
        case measure => omega
        case rel =>
          refine ⟨i, h, rfl, rfl, by omega, by omega, by omega, by omega, HI, ⟨fun k hk hki => ?_⟩, S2⟩
          have := key_at HR.out (show h - m ≤ k by omega) hk
          have := HF.out
          omega
    · have hltz : ¬ (i : Int) < (j : Int) := by omega
      obtain rfl : i = j := by omega
      have hi1 : (i : Int) - 1 = ((i - 1 : Nat) : Int) := by omega
      have S2 : Aside (SW eI w0 blk off (X ++ (Rr.take 0 ++ z :: Rr.drop 0) ++ Y).toArray wr) := by
        have h1 := S1.out
        rw [HDK.out] at h1
        have h2 : SW eI w0 blk off (X ++ (Rr.take 0 ++ z :: Rr.drop 0) ++ Y).toArray wr := by simpa using h1
        exact h2
      clear S1
      go_wp2
      go_loopg [13] (i - 1 - a) (fun kx s13 wr2 => ∃ (k q : Nat), s13 = .int .i64 k ∧ k = a + q ∧ k + 1 ≤ i ∧ i - 1 - k ≤ kx ∧ Aside (SW eI w0 blk off (X ++ (Rr.take q ++ z :: Rr.drop q) ++ Y).toArray wr2))
      case atStart => exact ⟨a, 0, rfl, by omega, by omega, by omega, S2⟩
      case round =>
        clear S2
        obtain ⟨k, q, rfl, hkq, hki, hkx2, S3⟩ := hrel
        have HQ := Aside0.mk hkq
        clear hkq
        by_cases hlt2 : k + 1 < i
        · have hltz2 : (k : Int) < ((i - 1 : Nat) : Int) := by omega
          have hqr : q < Rr.length := by have := HQ.out; have := HRL.out; omega
          obtain ⟨dq, hdq⟩ : ∃ dq, dq = (X ++ (Rr.take q ++ z :: Rr.drop q) ++ Y).toArray := ⟨_, rfl⟩
          have hdsq : dq.size = N := by
            have h1 := HDK.out
            rw [← hds, h1, hdq]
            simp
            omega
          have hsw : swp dq k (k + 1) = (X ++ (Rr.take (q + 1) ++ z :: Rr.drop (q + 1)) ++ Y).toArray := by rw [hdq]; exact swp_fwd X Y Rr z q k hqr (by have := HQ.out; have := HA.out; omega)
          rw [← hdq] at S3
          clear hdq
          obtain ⟨iN3, hiN3⟩ : ∃ qq, qq = k := ⟨_, rfl⟩
          obtain ⟨jN3, hjN3⟩ : ∃ qq, qq = k + 1 := ⟨_, rfl⟩
          have ea3 : ((k : Int)).toNat = iN3 := by omega
          have pa3 : (0 : Int) ≤ (k : Int) := by omega
          have ba3 : (k : Int) < (N : Int) := by omega
          have ec3 : ((k : Int) + 1).toNat = jN3 := by omega
          have pc3 : (0 : Int) ≤ (k : Int) + 1 := by omega
          have bc3 : (k : Int) + 1 < (N : Int) := by omega
          have ra3 : IntKind.i64.wrap ((k : Int)) = (k : Int) := by rw [IntKind.wrap_i64]; omega
          have rc3 : IntKind.i64.wrap ((k : Int) + 1) = (k : Int) + 1 := by rw [IntKind.wrap_i64]; omega
          obtain ⟨x3, hx3⟩ : ∃ x, x = dq[k]! := ⟨_, rfl⟩
          obtain ⟨y3, hy3⟩ : ∃ x, x = dq[k + 1]! := ⟨_, rfl⟩
          have S4 : Aside (SW eI w0 blk off (swp dq (k) (k + 1)) ((wr.setCell ⟨blk, off + iN3, none⟩ (eI y3)).setCell ⟨blk, off + jN3, none⟩ (eI x3)).drew) := by rw [hiN3, hjN3, hx3, hy3]; exact S3.out.swapped R (k) (k + 1) (by omega) (by omega)
          have c3a := S3.out.c1 R (by rw [hdsq, hs]) (k) (by omega)
          have c3b := S3.out.c1 R (by rw [hdsq, hs]) (k + 1) (by omega)
          have f3a := S3.out.f1 R (by rw [hdsq, hs]) (k) (by omega)
          have f3b := S3.out.f1 R (by rw [hdsq, hs]) (k + 1) (by omega)
          obtain ⟨u3, c3c⟩ := S3.out.c2 R (by rw [hdsq, hs]) (k) (k + 1) (by omega) (by omega) (eI y3)
          rw [← hjN3, ← hiN3] at c3c
          rw [← hx3, ← hiN3] at c3a
          rw [← hy3, ← hjN3] at c3b
          rw [← hiN3] at f3a
          rw [← hjN3] at f3b
          rw [hsw] at S4
          clear S3 hx3 hy3 hiN3 hjN3 hsw
          go_wp2_with fail
          go_big_region
          clear c3a c3b c3c f3a f3b
          generalize ((wr.setCell ⟨blk, off + iN3, none⟩ (eI y3)).setCell ⟨blk, off + jN3, none⟩ (eI x3)).drew = w4 at S4 ⊢
          clear ea3 ec3
          go_wp2
          go_roundg (i - 1 - (k + 1))
          case measure => omega
          case rel => exact ⟨k + 1, q + 1, by go_num, by have := HQ.out; omega, by omega, by omega, S4⟩
        · have hltz2 : ¬ (k : Int) < ((i - 1 : Nat) : Int) := by omega
          go_wp2
          refine bodyPost_ret (results_none rfl _ _ _) rfl ?_
          have hq := HQ.out
          have hrl := HRL.out
          obtain ⟨p1, p2⟩ := put_mid (kf := kf) (z := z) (l := Rr) q HR.out (fun x hx => by
            obtain ⟨e, he, heq, rfl⟩ := tk_mem hx
            exact .inl (HI.out e he (by omega))) (fun x hx => by
            obtain ⟨e, he, heq, rfl⟩ := dr_mem hx
            have h1 := HJ.out e he (by omega)
            have h2 := HZ.out Rr[e] (List.getElem_mem he)
            unfold Ord
            omega)
          exact ⟨rfl, _, p1, p2, by have h3 := S3.out; simpa [List.append_assoc] using h3⟩
set_option maxHeartbeats 8000000 in
set_option maxRecDepth 1000000 in
theorem symLast_c (kf : Int → Int) (g : Nat) (cb : Array Value) (blk off cap N : Nat) (d0 : Array Int) (w0 : World) (R : Row1 eI w0 blk off d0) (hs : d0.size = N) (hcmp : CmpOn kf g cb blk off N w0) (eg : ∀ args w, (callFunc g args).run Try.prog w = .ok (.enter g args) w) (hsz : N < 4611686018427387904) (w : World) (a m b : Nat) (X L Y : List Int) (y : Int) (ha : a = X.length) (hm : m = X.length + L.length) (hb : b = X.length + L.length + 1) (hL2 : L.length ≠ 1) (hN : (X ++ (L ++ y :: []) ++ Y).length = N) (hR : L.Pairwise (Ord kf)) (hz : ∀ r ∈ L, r < y) (hP : ∀ x ∈ X ++ (L ++ y :: []) ++ Y, 0 ≤ x ∧ x < (N : Int))
    (S : SW eI w0 blk off (X ++ (L ++ y :: []) ++ Y).toArray w) :
    Calls Try.prog 121 #[.slice (some ⟨blk, off, none⟩) N cap, .int .i64 a, .int .i64 m, .int .i64 b, .func (.func g) #[] cb] w fun e w' => e = .returned (.tuple #[]) ∧ ∃ M, M.Perm (y :: L) ∧ M.Pairwise (Ord kf) ∧ SW eI w0 blk off (X ++ M ++ Y).toArray w' := by
  have mixed := mixedT
  have hcl0 := R.hO.cells
  simp only [Value.cells] at hcl0
  have hst := R.hO.store Try.prog
  have u33 := Try.underlying33
  have HC : Aside _ := hcmp
  have HR := Aside0.mk hR
  have HZ := Aside0.mk hz
  have hl : m + 1 = b ∧ a ≤ m ∧ b ≤ N := by rw [← hN]; simp; omega
  have HA := Aside0.mk ha
  have HRL := Aside0.mk (show a + L.length = m by omega)
  obtain ⟨dk, hdk⟩ : ∃ dk, dk = (X ++ (L ++ y :: []) ++ Y).toArray := ⟨_, rfl⟩
  have hds : dk.size = N := by rw [hdk, ← hN]; simp
  have HALL := Aside0.mk (show ∀ i, i < N → 0 ≤ dk[i]! ∧ dk[i]! < (N : Int) from fun i hi => by rw [hdk]; exact all_idx hP i (by rw [hN]; exact hi))
  have HA0 := Aside0.mk (show dk[m]! = y by rw [hdk, hm, show X ++ (L ++ y :: []) ++ Y = (X ++ L) ++ y :: Y by simp]; exact get_mid _ _ y _ (by simp))
  have HAT := Aside0.mk (show ∀ k, (hk : k < L.length) → dk[a + k]! = L[k] from fun k hk => by
    rw [hdk, show X ++ (L ++ y :: []) ++ Y = X ++ L ++ (y :: Y) by simp]
    exact at_idx_mid _ _ _ _ k (by omega) hk)
  rw [← hdk] at S
  have HDK := Aside0.mk hdk
  have S0 : Aside (SW eI w0 blk off dk w) := S
  have hne : ¬ (m : Int) - (a : Int) = 1 := by omega
  have hneb : ((m : Int) - (a : Int) == 1) = false := by simpa using hne
  have hbm : (b : Int) - (m : Int) = 1 := by omega
  clear S hcmp ha hm hb hN hR hz hP hdk hL2
  go_enter Try.func121, Try.ntmps121
  go_wp2
  go_loopg [14, 15] (m - a) (fun kx s10 s11 wr => ∃ (i j : Nat), s10 = .int .i64 i ∧ s11 = .int .i64 j ∧ a ≤ i ∧ i ≤ j ∧ j ≤ m ∧ j - i ≤ kx ∧ Aside0 (∀ k, (hk : k < L.length) → a + k < i → ¬ kf y < kf L[k]) ∧ Aside0 (∀ k, (hk : k < L.length) → j ≤ a + k → kf y < kf L[k]) ∧ Aside (SW eI w0 blk off dk wr))
  case atStart => exact ⟨a, m, rfl, rfl, by omega, by omega, by omega, by omega, ⟨fun k hk h => by omega⟩, ⟨fun k hk h => by have := HRL.out; omega⟩, S0⟩
  case round =>
    clear S0
    obtain ⟨i, j, rfl, rfl, hmi, hij, hjb, hkx, HI, HJ, S1⟩ := hrel
    by_cases hlt : i < j
    · have hltz : (i : Int) < (j : Int) := by omega
      obtain ⟨h, hh⟩ : ∃ h : Nat, h = (i + j) / 2 := ⟨_, rfl⟩
      have hhz : ((i : Int) + (j : Int)) / 2 = (h : Int) := by omega
      have hhb : a ≤ h ∧ i ≤ h ∧ h < j := by omega
      have HH := Aside0.mk hh
      clear hh
      have hrk : h - a < L.length := by have := HRL.out; omega
      have hat : dk[h]! = L[h - a] := by have := HAT.out (h - a) hrk; rwa [show a + (h - a) = h by omega] at this
      have HK := Aside0.mk hrk
      have HT := Aside0.mk (show cfK kf dk[m]! dk[h]! < 0 ↔ kf y < kf L[h - a] by rw [cfK_lt, hat, HA0.out])
      clear hat
      by_cases hcf : cfK kf dk[m]! dk[h]! < 0
      · have HF := Aside0.mk (HT.out.1 hcf)
        obtain ⟨iN1, hiN1⟩ : ∃ qq, qq = m := ⟨_, rfl⟩
        obtain ⟨jN1, hjN1⟩ : ∃ qq, qq = h := ⟨_, rfl⟩
        have ea1 : ((m : Int)).toNat = iN1 := by omega
        have pa1 : (0 : Int) ≤ (m : Int) := by omega
        have ba1 : (m : Int) < (N : Int) := by omega
        have ec1 : ((h : Int)).toNat = jN1 := by omega
        have pc1 : (0 : Int) ≤ (h : Int) := by omega
        have bc1 : (h : Int) < (N : Int) := by omega
        have ra1 : IntKind.i64.wrap ((m : Int)) = (m : Int) := by rw [IntKind.wrap_i64]; omega
        have rc1 : IntKind.i64.wrap ((h : Int)) = (h : Int) := by rw [IntKind.wrap_i64]; omega
        obtain ⟨x1, hx1⟩ : ∃ x, x = dk[m]! := ⟨_, rfl⟩
        obtain ⟨y1, hy1⟩ : ∃ x, x = dk[h]! := ⟨_, rfl⟩
        have l1a := S1.out.cl R (by rw [hds, hs]) (m) (by omega)
        have l1b := S1.out.cl R (by rw [hds, hs]) (h) (by omega)
        rw [← hx1, ← hiN1] at l1a
        rw [← hy1, ← hjN1] at l1b
        have hc1 := sw_cmpOn S1.out HC.out hds x1 y1 (by rw [hx1]; exact HALL.out (m) (by omega)) (by rw [hy1]; exact HALL.out (h) (by omega))
        have hv1 : cfK kf x1 y1 < 0 := by rw [hx1, hy1]; exact hcf
        have hd1 : decide (cfK kf x1 y1 < 0) = true := decide_eq_true hv1
        clear hx1 hy1 hiN1 hjN1 hcf
        go_wp2_with fail
        go_quiet_grown (first | (go_at_fn g; refine Calls.grown_of (hc1 _ _)))
        have S2 : Aside (SW eI w0 blk off dk (grow (wr.drewN nq) osq)) := S1.out.grown nq osq
        clear l1a l1b hc1 S1
        generalize grow (wr.drewN nq) osq = w2 at S2 ⊢
        clear nq osq
        clear ea1 ec1
        go_wp2
        go_roundg (h - i)
        case measure => omega
        case rel =>
          refine ⟨i, h, rfl, rfl, by omega, by omega, by omega, by omega, HI, ⟨fun k hk hki => ?_⟩, S2⟩
          have := key_at HR.out (show h - a ≤ k by omega) hk
          have := HF.out
          omega
      · have HF := Aside0.mk (show ¬ kf y < kf L[h - a] from fun h => hcf (HT.out.2 h))
        obtain ⟨iN2, hiN2⟩ : ∃ qq, qq = m := ⟨_, rfl⟩
        obtain ⟨jN2, hjN2⟩ : ∃ qq, qq = h := ⟨_, rfl⟩
        have ea2 : ((m : Int)).toNat = iN2 := by omega
        have pa2 : (0 : Int) ≤ (m : Int) := by omega
        have ba2 : (m : Int) < (N : Int) := by omega
        have ec2 : ((h : Int)).toNat = jN2 := by omega
        have pc2 : (0 : Int) ≤ (h : Int) := by omega
        have bc2 : (h : Int) < (N : Int) := by omega
        have ra2 : IntKind.i64.wrap ((m : Int)) = (m : Int) := by rw [IntKind.wrap_i64]; omega
        have rc2 : IntKind.i64.wrap ((h : Int)) = (h : Int) := by rw [IntKind.wrap_i64]; omega
        obtain ⟨x2, hx2⟩ : ∃ x, x = dk[m]! := ⟨_, rfl⟩
        obtain ⟨y2, hy2⟩ : ∃ x, x = dk[h]! := ⟨_, rfl⟩
        have l2a := S1.out.cl R (by rw [hds, hs]) (m) (by omega)
        have l2b := S1.out.cl R (by rw [hds, hs]) (h) (by omega)
        rw [← hx2, ← hiN2] at l2a
        rw [← hy2, ← hjN2] at l2b
        have hc2 := sw_cmpOn S1.out HC.out hds x2 y2 (by rw [hx2]; exact HALL.out (m) (by omega)) (by rw [hy2]; exact HALL.out (h) (by omega))
        have hv2 : ¬ cfK kf x2 y2 < 0 := by rw [hx2, hy2]; exact hcf
        have hd2 : decide (cfK kf x2 y2 < 0) = false := decide_eq_false hv2
        clear hx2 hy2 hiN2 hjN2 hcf
        go_wp2_with fail
        go_quiet_grown (first | (go_at_fn g; refine Calls.grown_of (hc2 _ _)))
        have S2 : Aside (SW eI w0 blk off dk (grow (wr.drewN nq) osq)) := S1.out.grown nq osq
        clear l2a l2b hc2 S1
        generalize grow (wr.drewN nq) osq = w2 at S2 ⊢
        clear nq osq
        clear ea2 ec2
        go_wp2
        go_roundg (j - (h + 1))
        case measure => omega
        case rel =>
          refine ⟨h + 1, j, by go_num, rfl, by omega, by omega, by omega, by omega, ⟨fun k hk hki => ?_⟩, HJ, S2⟩
          have := key_at HR.out (show k ≤ h - a by omega) HK.out
          have := HF.out
          omega
    · have hltz : ¬ (i : Int) < (j : Int) := by omega
      obtain rfl : i = j := by omega
      have S2 : Aside (SW eI w0 blk off (X ++ (L.take L.length ++ y :: L.drop L.length) ++ Y).toArray wr) := by
        have h1 := S1.out
        rw [HDK.out] at h1
        have h2 : SW eI w0 blk off (X ++ (L.take L.length ++ y :: L.drop L.length) ++ Y).toArray wr := by simpa using h1
        exact h2
      clear S1
      go_wp2
      go_loopg [17] (m - i) (fun kx s13 wr2 => ∃ (k q : Nat), s13 = .int .i64 k ∧ k = a + q ∧ q ≤ L.length ∧ i ≤ k ∧ k - i ≤ kx ∧ Aside (SW eI w0 blk off (X ++ (L.take q ++ y :: L.drop q) ++ Y).toArray wr2))
      case atStart => exact ⟨m, L.length, rfl, by have := HRL.out; omega, by omega, by omega, by omega, S2⟩
      case round =>
        clear S2
        obtain ⟨k, q, rfl, hkq, hqL, hki, hkx2, S3⟩ := hrel
        have HQ := Aside0.mk hkq
        clear hkq
        by_cases hlt2 : i < k
        · have hltz2 : (i : Int) < (k : Int) := by omega
          obtain ⟨q', hq'⟩ : ∃ q', q = q' + 1 := ⟨q - 1, by have := HQ.out; omega⟩
          subst hq'
          obtain ⟨dq, hdq⟩ : ∃ dq, dq = (X ++ (L.take (q' + 1) ++ y :: L.drop (q' + 1)) ++ Y).toArray := ⟨_, rfl⟩
          have hdsq : dq.size = N := by
            have h1 := HDK.out
            rw [← hds, h1, hdq]
            simp
            omega
          have hkN : k < N ∧ 0 < k := by have := HQ.out; have := HRL.out; omega
          have hsw : swp dq k (k - 1) = (X ++ (L.take q' ++ y :: L.drop q') ++ Y).toArray := by rw [hdq]; exact swp_bwd X Y L y q' k (by omega) (by have := HQ.out; have := HA.out; omega)
          rw [← hdq] at S3
          clear hdq
          obtain ⟨iN3, hiN3⟩ : ∃ qq, qq = k := ⟨_, rfl⟩
          obtain ⟨jN3, hjN3⟩ : ∃ qq, qq = k - 1 := ⟨_, rfl⟩
          have ea3 : ((k : Int)).toNat = iN3 := by omega
          have pa3 : (0 : Int) ≤ (k : Int) := by omega
          have ba3 : (k : Int) < (N : Int) := by omega
          have ec3 : ((k : Int) - 1).toNat = jN3 := by omega
          have pc3 : (0 : Int) ≤ (k : Int) - 1 := by omega
          have bc3 : (k : Int) - 1 < (N : Int) := by omega
          have ra3 : IntKind.i64.wrap ((k : Int)) = (k : Int) := by rw [IntKind.wrap_i64]; omega
          have rc3 : IntKind.i64.wrap ((k : Int) - 1) = (k : Int) - 1 := by rw [IntKind.wrap_i64]; omega
          obtain ⟨x3, hx3⟩ : ∃ x, x = dq[k]! := ⟨_, rfl⟩
          obtain ⟨y3, hy3⟩ : ∃ x, x = dq[k - 1]! := ⟨_, rfl⟩
          have S4 : Aside (SW eI w0 blk off (swp dq (k) (k - 1)) ((wr.setCell ⟨blk, off + iN3, none⟩ (eI y3)).setCell ⟨blk, off + jN3, none⟩ (eI x3)).drew) := by rw [hiN3, hjN3, hx3, hy3]; exact S3.out.swapped R (k) (k - 1) (by omega) (by omega)
          have c3a := S3.out.c1 R (by rw [hdsq, hs]) (k) (by omega)
          have c3b := S3.out.c1 R (by rw [hdsq, hs]) (k - 1) (by omega)
          have f3a := S3.out.f1 R (by rw [hdsq, hs]) (k) (by omega)
          have f3b := S3.out.f1 R (by rw [hdsq, hs]) (k - 1) (by omega)
          obtain ⟨u3, c3c⟩ := S3.out.c2 R (by rw [hdsq, hs]) (k) (k - 1) (by omega) (by omega) (eI y3)
          rw [← hjN3, ← hiN3] at c3c
          rw [← hx3, ← hiN3] at c3a
          rw [← hy3, ← hjN3] at c3b
          rw [← hiN3] at f3a
          rw [← hjN3] at f3b
          rw [hsw] at S4
          clear S3 hx3 hy3 hiN3 hjN3 hsw
          go_wp2_with fail
          go_big_region
          clear c3a c3b c3c f3a f3b
          generalize ((wr.setCell ⟨blk, off + iN3, none⟩ (eI y3)).setCell ⟨blk, off + jN3, none⟩ (eI x3)).drew = w4 at S4 ⊢
          clear ea3 ec3
          go_wp2
          have hk1 : (k : Int) - 1 = ((k - 1 : Nat) : Int) := by omega
          go_roundg (k - 1 - i)
          case measure => omega
          case rel => exact ⟨k - 1, q', by rw [hk1], by have := HQ.out; omega, by omega, by omega, by omega, S4⟩
        · have hltz2 : ¬ (i : Int) < (k : Int) := by omega
          go_wp2
          refine bodyPost_ret (results_none rfl _ _ _) rfl ?_
          have hq := HQ.out
          have hrl := HRL.out
          obtain ⟨p1, p2⟩ := put_mid (kf := kf) (z := y) (l := L) q HR.out (fun x hx => by
            obtain ⟨e, he, heq, rfl⟩ := tk_mem hx
            have h1 := HI.out e he (by omega)
            have h2 := HZ.out L[e] (List.getElem_mem he)
            unfold Ord
            omega) (fun x hx => by
            obtain ⟨e, he, heq, rfl⟩ := dr_mem hx
            exact .inl (HJ.out e he (by omega)))
          exact ⟨rfl, _, p1, p2, by have h3 := S3.out; simpa [List.append_assoc] using h3⟩
theorem all2 {P : Int → Prop} {A B : List Int} (h1 : ∀ x ∈ A, P x) (h2 : ∀ x ∈ B, P x) : ∀ x ∈ A ++ B, P x := fun x hx => (List.mem_append.1 hx).elim (h1 x) (h2 x)
theorem all3 {P : Int → Prop} {A B C : List Int} (h1 : ∀ x ∈ A, P x) (h2 : ∀ x ∈ B, P x) (h3 : ∀ x ∈ C, P x) : ∀ x ∈ A ++ B ++ C, P x := all2 (all2 h1 h2) h3
theorem all4 {P : Int → Prop} {A B C D : List Int} (h1 : ∀ x ∈ A, P x) (h2 : ∀ x ∈ B, P x) (h3 : ∀ x ∈ C, P x) (h4 : ∀ x ∈ D, P x) : ∀ x ∈ A ++ B ++ C ++ D, P x := all2 (all3 h1 h2 h3) h4
end Go.Proofs.Ytningpmoojnomaa.Pr
end
