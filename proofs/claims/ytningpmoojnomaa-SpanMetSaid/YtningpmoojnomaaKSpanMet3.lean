/- What the proof of the law needs, trimmed and merged by wip/pack.py out of the texts YtningpmoojnomaaExtStc, YtningpmoojnomaaBridge, YtningpmoojnomaaRowI, YtningpmoojnomaaShelf, YtningpmoojnomaaExtBy, YtningpmoojnomaaPrx3, YtningpmoojnomaaPrx2. No condition. -/
import Derived.Shelf.SlSortCmp.NoneTotal
import Derived.Shelf.Sort.Plain
import Derived.Shelf.Small.Wraps
import Derived.Ground.Names2Prog
import Derived.Shelf.Slices.CompactI
import Derived.Shelf.Slices.In.SortNone
import Derived.Ground.SlsfProg
import Derived.Shelf.SlSortCmp.Insertion
import Derived.Shelf.SlSortCmp.Insertion1
import Derived.Test.YtningpmoojnomaaProg
import Derived.Test.YtningpmoojnomaaKSpanMet0
import Derived.Test.YtningpmoojnomaaKSpanMet1
import Derived.Test.YtningpmoojnomaaKSpanMet2
section
namespace Go.Proofs.Ytningpmoojnomaa.Pr
open Go.Shelf Go.RowKit Go.Lib Go.Sort Go.Proofs.YtningpmoojnomaaW.PrintWords
set_option linter.unusedVariables false
set_option linter.unusedSimpArgs false
section
variable (kf : Int → Int) (g : Nat) (cb : Array Value) (blk off cap N : Nat) (d0 : Array Int) (w0 : World) (R : Row1 eI w0 blk off d0) (hs : d0.size = N) (hcmp : CmpOn kf g cb blk off N w0) (eg : ∀ args w, (callFunc g args).run Try.prog w = .ok (.enter g args) w) (hsz : N < 4611686018427387904)
include R hs hcmp eg hsz
theorem symMerge_c : ∀ (n : Nat) (w : World) (a m b : Nat) (X L Rr Y : List Int), L.length + Rr.length ≤ n → 0 < L.length → 0 < Rr.length → L.Pairwise (Ord kf) → Rr.Pairwise (Ord kf) → (∀ l ∈ L, ∀ r ∈ Rr, l < r) → a = X.length → m = X.length + L.length → b = X.length + L.length + Rr.length → (X ++ L ++ Rr ++ Y).length = N → (∀ x ∈ X ++ L ++ Rr ++ Y, 0 ≤ x ∧ x < (N : Int)) → SW eI w0 blk off (X ++ L ++ Rr ++ Y).toArray w →
      Calls Try.prog 121 #[.slice (some ⟨blk, off, none⟩) N cap, .int .i64 a, .int .i64 m, .int .i64 b, .func (.func g) #[] cb] w fun e w' => e = .returned (.tuple #[]) ∧ ∃ M, M.Perm (L ++ Rr) ∧ M.Pairwise (Ord kf) ∧ SW eI w0 blk off (X ++ M ++ Y).toArray w'
  | 0, w, a, m, b, X, L, Rr, Y, hn, hl, hr, _, _, _, _, _, _, _, _, _ => by omega
  | n + 1, w, a, m, b, X, L, Rr, Y, hn, hl, hr, hLs, hRs, hLR, ha, hm, hb, hN, hP, S => by
    by_cases hle : L.length + Rr.length ≤ n
    · exact symMerge_c n w a m b X L Rr Y hle hl hr hLs hRs hLR ha hm hb hN hP S
    · by_cases h1 : L.length = 1
      · obtain ⟨z, rfl⟩ := List.length_eq_one_iff.1 h1
        have e : X ++ [z] ++ Rr ++ Y = X ++ z :: Rr ++ Y := by simp
        rw [e] at hN S hP
        have := symOne_c kf g cb blk off cap N d0 w0 R hs hcmp eg hsz w a m b X Rr Y z ha (by simpa using hm) (by simpa using hb) hN hRs (fun r hr => hLR z (by simp) r hr) hP S
        simpa using this
      · by_cases h2 : Rr.length = 1
        · obtain ⟨y, rfl⟩ := List.length_eq_one_iff.1 h2
          have e : X ++ L ++ [y] ++ Y = X ++ (L ++ y :: []) ++ Y := by simp
          rw [e] at hN S hP
          refine (symLast_c kf g cb blk off cap N d0 w0 R hs hcmp eg hsz w a m b X L Y y ha hm (by simpa using hb) h1 hN hLs (fun l hl => hLR l hl y (by simp)) hP S).mono ?_
          rintro e w' ⟨he, M, p1, p2, p3⟩
          exact ⟨he, M, p1.trans (List.perm_append_singleton y L).symm, p2, p3⟩
        · have hbN : b ≤ N := by rw [← hN]; simp only [List.length_append]; omega
          by_cases hmid : (a + b) / 2 < m
          · exact symMore_c kf g cb blk off cap N d0 w0 R hs hcmp eg hsz w n a m b ((a + b) / 2) ((a + b) / 2 + m - b) ((a + b) / 2) ((a + b) / 2 + m) ((a + b) / 2 + m - 1) X L Rr Y
              ⟨by omega, by omega, hbN, rfl, rfl, by omega, by omega, by omega, by omega, by omega, by omega, .inr (by omega), .inr rfl⟩ (.inl ⟨hmid, by omega, rfl⟩) (by omega) h1 h2 hLs hRs hLR ha hm hb hN hP (symMerge_c n) S
          · exact symMore_c kf g cb blk off cap N d0 w0 R hs hcmp eg hsz w n a m b ((a + b) / 2) a m ((a + b) / 2 + m) ((a + b) / 2 + m - 1) X L Rr Y
              ⟨by omega, by omega, hbN, rfl, rfl, by omega, by omega, by omega, by omega, by omega, by omega, .inl rfl, .inl rfl⟩ (.inr ⟨hmid, rfl, rfl⟩) (by omega) h1 h2 hLs hRs hLR ha hm hb hN hP (symMerge_c n) S
end
/-- Two neighbouring blocks become one. -/
def Keeps (kf : Int → Int) (A b : Nat) (l l' : List Int) : Prop := (∀ s e, e ≤ A → Seg kf l s e → Seg kf l' s e) ∧ (∀ s e, b ≤ s → Seg kf l s e → Seg kf l' s e)
section
variable {kf : Int → Int} {g : Nat} {cb : Array Value} {blk off cap N : Nat} {d0 : Array Int} {w0 : World} (R : Row1 eI w0 blk off d0) (hs : d0.size = N) (hcmp : CmpOn kf g cb blk off N w0) (eg : ∀ args w, (callFunc g args).run Try.prog w = .ok (.enter g args) w) (hsz : N < 4611686018427387904)
include R hs hcmp eg hsz
theorem symSeg_c (w : World) (A m b : Nat) (l : List Int) (h1 : A < m) (h2 : m < b) (h3 : b ≤ N) (hl : l.length = N) (s1 : Seg kf l A m) (s2 : Seg kf l m b) (hP : ∀ x ∈ l, 0 ≤ x ∧ x < (N : Int)) (S : SW eI w0 blk off l.toArray w) :
    Calls Try.prog 121 #[.slice (some ⟨blk, off, none⟩) N cap, .int .i64 A, .int .i64 m, .int .i64 b, .func (.func g) #[] cb] w fun e w' => e = .returned (.tuple #[]) ∧ ∃ l' : List Int, l'.length = N ∧ Seg kf l' A b ∧ Keeps kf A b l l' ∧ (∀ x ∈ l', 0 ≤ x ∧ x < (N : Int)) ∧ SW eI w0 blk off l'.toArray w' := by
  have hc := cut3 l A m b (by omega) (by omega)
  have lA : (l.take A).length = A := by rw [List.length_take]; omega
  have lL : (sub l A m).length = m - A := sub_len l A m (by omega)
  have lR : (sub l m b).length = b - m := sub_len l m b (by omega)
  have hN : (l.take A ++ sub l A m ++ sub l m b ++ l.drop b).length = N := by rw [← hc]; exact hl
  have hP' : ∀ x ∈ l.take A ++ sub l A m ++ sub l m b ++ l.drop b, 0 ≤ x ∧ x < (N : Int) := fun x hx => hP x (by rw [hc]; exact hx)
  rw [hc] at S
  refine (symMerge_c kf g cb blk off cap N d0 w0 R hs hcmp eg hsz _ w A m b (l.take A) (sub l A m) (sub l m b) (l.drop b) (Nat.le_refl _) (by omega) (by omega) s1.1 s2.1 (fun x hx y hy => ?_) lA.symm (by omega) (by omega) hN hP' S).mono ?_
  · have hx' := (irange_mem A m x).1 (s1.2.mem_iff.1 hx)
    have hy' := (irange_mem m b y).1 (s2.2.mem_iff.1 hy)
    omega
  · rintro e w' ⟨he, M, p1, p2, p3⟩
    have hM : M.length = b - A := by rw [p1.length_eq, List.length_append, lL, lR]; omega
    refine ⟨he, _, ?_, ⟨?_, ?_⟩, ⟨fun s e he hse => seg_left hse (by omega) he, fun s e hbs hse => seg_right hse (by rw [List.length_append, lA, hM]; omega) hbs⟩, fun x hx => hP' x ?_, p3⟩
    · simp only [List.length_append, List.length_drop, lA, hM]; omega
    · rw [sub_mid _ _ _ A b lA (by omega)]; exact p2
    · rw [sub_mid _ _ _ A b lA (by omega)]
      refine p1.trans ?_
      rw [← irange_append A m b (by omega) (by omega)]
      exact s1.2.append s2.2
    · simp only [List.mem_append] at hx ⊢
      rcases hx with (hx | hx) | hx
      · exact .inl (.inl (.inl hx))
      · rcases List.mem_append.1 (p1.mem_iff.1 hx) with hx | hx
        · exact .inl (.inl (.inr hx))
        · exact .inl (.inr hx)
      · exact .inr hx
theorem insSeg_c (w : World) (A b : Nat) (l : List Int) (h1 : A ≤ b) (h3 : b ≤ N) (hl : l.length = N) (hd : l.drop A = irange A N) (hP : ∀ x ∈ l, 0 ≤ x ∧ x < (N : Int)) (S : SW eI w0 blk off l.toArray w) :
    Calls Try.prog 120 #[.slice (some ⟨blk, off, none⟩) N cap, .int .i64 A, .int .i64 b, .func (.func g) #[] cb] w fun e w' => e = .returned (.tuple #[]) ∧ ∃ l' : List Int, l'.length = N ∧ Seg kf l' A b ∧ (∀ s e, e ≤ A → Seg kf l s e → Seg kf l' s e) ∧ l'.drop b = irange b N ∧ (∀ x ∈ l', 0 ≤ x ∧ x < (N : Int)) ∧ SW eI w0 blk off l'.toArray w' := by
  have lA : (l.take A).length = A := by rw [List.length_take]; omega
  have hq : (irange A b).length = b - A := irange_len A b
  have e0 : l = l.take A ++ irange A b ++ irange b N := by
    rw [List.append_assoc, irange_append A b N h1 h3, ← hd, List.take_append_drop]
  rw [e0] at S
  refine (insSort_c kf g cb blk off cap N d0 w0 R hs hcmp eg hsz w A b (l.take A) (irange A b) (irange b N) lA.symm (by omega) (by rw [← e0]; exact hl) (irange_lt A b) (by rw [← e0]; exact hP) S).mono ?_
  rintro e w' ⟨he, M, m1, m2, hS⟩
  have hM : M.length = b - A := by rw [m1.length_eq, hq]
  refine ⟨he, _, ?_, ⟨?_, ?_⟩, fun s e he hse => seg_left hse (by omega) he, ?_, fun x hx => hP x ?_, hS⟩
  · simp only [List.length_append, lA, hM, irange_len]; omega
  · rw [sub_mid _ _ _ A b lA (by omega)]; exact m2
  · rw [sub_mid _ _ _ A b lA (by omega)]; exact m1
  · rw [List.drop_left' (by rw [List.length_append, lA, hM]; omega)]
  · rw [e0]
    simp only [List.mem_append] at hx ⊢
    rcases hx with (hx | hx) | hx
    · exact .inl (.inl hx)
    · exact .inl (.inr (m1.mem_iff.1 hx))
    · exact .inr hx
end
/-- From A on: blocks of bs. -/
def Bk (kf : Int → Int) (bs A n : Nat) (l : List Int) : Prop := ∀ k, A + k * bs < n → Seg kf l (A + k * bs) (min (A + k * bs + bs) n)
/-- Up to A: blocks of D. -/
def Dn (kf : Int → Int) (D A : Nat) (l : List Int) : Prop := ∀ k, k * D + D ≤ A → Seg kf l (k * D) (k * D + D)
theorem dn_step {kf : Int → Int} {D q : Nat} {l l' : List Int} (h : Dn kf D (q * D) l) (hk : ∀ s e, e ≤ q * D → Seg kf l s e → Seg kf l' s e) (hs : Seg kf l' (q * D) (q * D + D)) : Dn kf D ((q + 1) * D) l' := by
  intro k hkD
  by_cases hkq : k < q
  · have : k * D + D ≤ q * D := by rw [← Nat.succ_mul]; exact Nat.mul_le_mul_right _ hkq
    exact hk _ _ this (h k this)
  · by_cases hD : D = 0
    · subst hD
      simp only [Nat.mul_zero, Nat.add_zero] at *
      exact hs
    · have : k = q := by
        have h1 : (k + 1) * D ≤ (q + 1) * D := by rw [Nat.succ_mul]; exact hkD
        have := Nat.le_of_mul_le_mul_right h1 (by omega)
        omega
      subst this
      exact hs
theorem bk_step {kf : Int → Int} {bs A n : Nat} {l l' : List Int} (h : Bk kf bs A n l) (hk : ∀ s e, A + 2 * bs ≤ s → Seg kf l s e → Seg kf l' s e) : Bk kf bs (A + 2 * bs) n l' := by
  intro k hkn
  have e : A + 2 * bs + k * bs = A + (k + 2) * bs := by rw [Nat.add_mul]; omega
  rw [e] at hkn ⊢
  exact hk _ _ (by rw [← e]; omega) (h (k + 2) hkn)
theorem bk_done {kf : Int → Int} {D q n : Nat} {l : List Int} (hq : q * D ≤ n) (hn : n < q * D + D) (h : Dn kf D (q * D) l) (hs : q * D < n → Seg kf l (q * D) n) : Bk kf D 0 n l := by
  intro k hkn
  rw [Nat.zero_add] at hkn ⊢
  by_cases hkq : k < q
  · have h1 : k * D + D ≤ q * D := by rw [← Nat.succ_mul]; exact Nat.mul_le_mul_right _ hkq
    have h2 := h k h1
    rw [Nat.min_eq_left (by omega)]
    exact h2
  · have : k = q := by
      have h1 : k * D < (q + 1) * D := by rw [Nat.succ_mul]; omega
      have := Nat.lt_of_mul_lt_mul_right h1
      omega
    subst this
    rw [Nat.min_eq_right (by omega)]
    exact hs hkn
theorem bk_first {kf : Int → Int} {q n : Nat} {l : List Int} (hq : q * 20 ≤ n) (hn : n < q * 20 + 20) (h : Dn kf 20 (q * 20) l) (hs : Seg kf l (q * 20) n) : Bk kf 20 0 n l := bk_done hq hn h (fun _ => hs)
section
variable {kf : Int → Int} {g : Nat} {cb : Array Value} {blk off cap N : Nat} {d0 : Array Int} {w0 : World} (R : Row1 eI w0 blk off d0) (hs : d0.size = N) (hcmp : CmpOn kf g cb blk off N w0) (eg : ∀ args w, (callFunc g args).run Try.prog w = .ok (.enter g args) w) (hsz : N < 4611686018427387904)
include R hs hcmp eg hsz
set_option maxHeartbeats 8000000 in
set_option maxRecDepth 1000000 in
theorem stable_c (w : World) (S : SW eI w0 blk off (irange 0 N).toArray w) :
    Calls Try.prog 111 #[.slice (some ⟨blk, off, none⟩) N cap, .int .i64 N, .func (.func g) #[] cb] w fun e w' => e = .returned (.tuple #[]) ∧ SW eI w0 blk off (byL kf N).toArray w' := by
  have HSYM := Aside0.mk (fun w A m b l h1 h2 h3 hl s1 s2 hP S => symSeg_c (kf := kf) (cap := cap) R hs hcmp eg hsz w A m b l h1 h2 h3 hl s1 s2 hP S)
  have HINS := Aside0.mk (fun w A b l h1 h3 hl hd hP S => insSeg_c (kf := kf) (cap := cap) R hs hcmp eg hsz w A b l h1 h3 hl hd hP S)
  have S0 : Aside0 (SW eI w0 blk off (irange 0 N).toArray w) := ⟨S⟩
  clear S hcmp R hs eg
  go_enter Try.func111, Try.ntmps111
  go_wp2
  go_loopg [7, 8] (N + 20) (fun kx s7 s8 wr => ∃ (q A B : Nat) (l : List Int), s7 = .int .i64 A ∧ s8 = .int .i64 B ∧ B ≤ A + 20 ∧ A + 20 ≤ B ∧ A ≤ N ∧ N + 20 - A ≤ kx ∧ Aside0 (A = q * 20) ∧ Aside0 (l.length = N) ∧ Aside0 (Dn kf 20 A l) ∧ Aside0 (l.drop A = irange A N) ∧ Aside0 (∀ x ∈ l, 0 ≤ x ∧ x < (N : Int)) ∧ Aside0 (SW eI w0 blk off l.toArray wr))
  case atStart => exact ⟨0, 0, 20, irange 0 N, rfl, rfl, by omega, by omega, by omega, by omega, ⟨rfl⟩, ⟨by rw [irange_len]; omega⟩, ⟨fun k hk => by omega⟩, ⟨by simp⟩, ⟨fun x hx => (irange_mem 0 N x).1 hx⟩, S0⟩
  case round =>
    clear S0
    obtain ⟨q, A, B, l, rfl, rfl, hB1, hB2, hAN, hkx, HA, HL, HD, HR, HPP, HS⟩ := hrel
    by_cases hlt : B ≤ N
    · have hltz : (B : Int) ≤ (N : Int) := by omega
      have hc := HINS.out wr A B l (by omega) hlt HL.out HR.out HPP.out HS.out
      go_wp2_with (go_at_call 120; with_reducible refine hc.mono ?_; clear hc; rintro e w2 ⟨rfl, hp⟩; have HP := Aside0.mk hp; clear hp)
      go_roundg (N + 20 - B)
      case measure => omega
      case rel =>
        obtain ⟨l', h1, h2, h3, h4, h6, h5⟩ := HP.out
        have hA := HA.out
        have eB : B = A + 20 := by omega
        rw [eB] at h2 h4
        exact ⟨q + 1, B, B + 20, l', rfl, by go_num, by omega, by omega, by omega, by omega, ⟨by omega⟩, ⟨h1⟩, ⟨by rw [eB]; have := dn_step (kf := kf) (D := 20) (q := q) (l := l) (l' := l') (by rw [← hA]; exact HD.out) (by rw [← hA]; exact h3) (by rw [← hA]; exact h2); rwa [Nat.succ_mul, ← hA] at this⟩, ⟨by rw [eB]; exact h4⟩, ⟨h6⟩, ⟨h5⟩⟩
    · have hltz : ¬ (B : Int) ≤ (N : Int) := by omega
      have hc := HINS.out wr A N l hAN (Nat.le_refl _) HL.out HR.out HPP.out HS.out
      go_wp2_with (go_at_call 120; with_reducible refine hc.mono ?_; clear hc; rintro e w2 ⟨rfl, hp⟩; have HP := Aside0.mk hp; clear hp)
      go_loopg [6] N (fun kx s6 wr2 => ∃ (bs : Nat) (l : List Int), s6 = .int .i64 bs ∧ 20 ≤ bs ∧ bs ≤ 2 * N + 20 ∧ N - bs ≤ kx ∧ Aside0 (l.length = N) ∧ Aside0 (Bk kf bs 0 N l) ∧ Aside0 (∀ x ∈ l, 0 ≤ x ∧ x < (N : Int)) ∧ Aside0 (SW eI w0 blk off l.toArray wr2))
      case atStart =>
        obtain ⟨l', h1, h2, h3, h4, h6, h5⟩ := HP.out
        have hA := HA.out
        exact ⟨20, l', rfl, by omega, by omega, by omega, ⟨h1⟩, ⟨bk_first (q := q) (by omega) (by omega) (fun k hk => h3 _ _ (by omega) (HD.out k (by omega))) (by rw [← hA]; exact h2)⟩, ⟨h6⟩, ⟨h5⟩⟩
      case round =>
        clear HP HL HD HR HS HA hAN hkx HPP
        obtain ⟨bs, l, rfl, hb1, hb2, hkx, HL, HB, HPP, HS⟩ := hrel
        by_cases hlt2 : bs < N
        · have hltz2 : (bs : Int) < (N : Int) := by omega
          obtain ⟨D, hD⟩ : ∃ D, D = 2 * bs := ⟨_, rfl⟩
          have hDz : 2 * (bs : Int) = (D : Int) := by omega
          have hDz2 : (bs : Int) * 2 = (D : Int) := by omega
          have hDb : D ≤ 2 * N ∧ bs < D := by omega
          have HD := Aside0.mk hD
          clear hD
          go_wp2
          go_loopg [7, 8] (N + D) (fun kx2 s7 s8 wr3 => ∃ (q A B : Nat) (l : List Int), s7 = .int .i64 A ∧ s8 = .int .i64 B ∧ B ≤ A + D ∧ A + D ≤ B ∧ A ≤ N ∧ N + D - A ≤ kx2 ∧ Aside0 (A = q * D) ∧ Aside0 (l.length = N) ∧ Aside0 (Dn kf D A l) ∧ Aside0 (Bk kf bs A N l) ∧ Aside0 (∀ x ∈ l, 0 ≤ x ∧ x < (N : Int)) ∧ Aside0 (SW eI w0 blk off l.toArray wr3))
          case atStart => exact ⟨0, 0, D, l, rfl, by go_num, by omega, by omega, by omega, by omega, ⟨by omega⟩, HL, ⟨fun k hk => by omega⟩, HB, HPP, HS⟩
          case round =>
            clear HL HB HS HPP
            obtain ⟨q, A, B, l, rfl, rfl, hB1, hB2, hAN, hkx2, HA, HL, HDN, HB, HPP, HS⟩ := hrel
            obtain ⟨M, hM⟩ : ∃ M, M = A + bs := ⟨_, rfl⟩
            have hMz : (A : Int) + (bs : Int) = (M : Int) := by omega
            have hMb : A < M ∧ M < A + D := by omega
            have HM := Aside0.mk hM
            clear hM
            have HK0 := Aside0.mk (fun (h : A < N) => show Seg kf l A (min M N) from by have := HB.out 0 (by omega); rw [HM.out]; simpa using this)
            by_cases hlt3 : B ≤ N
            · have hltz3 : (B : Int) ≤ (N : Int) := by omega
              have hc := HSYM.out wr A M B l hMb.1 (by omega) hlt3 HL.out (by have := HK0.out (by omega); rwa [Nat.min_eq_left (by omega)] at this) (by have h := HB.out 1 (by have := HM.out; omega); have h1 := HM.out; have h2 := HD.out; rw [Nat.one_mul, ← h1, Nat.min_eq_left (by omega), show M + bs = B by omega] at h; exact h) HPP.out HS.out
              go_wp2_with (go_at_call 121; with_reducible refine hc.mono ?_; clear hc; rintro e w3 ⟨rfl, hp⟩; have HP := Aside0.mk hp; clear hp)
              go_roundg (N + D - B)
              case measure => omega
              case rel =>
                obtain ⟨l', h1, h2, ⟨h3, h4⟩, h6, h5⟩ := HP.out
                have hA := HA.out
                have hD := HD.out
                have eB : B = A + D := by omega
                rw [eB] at h2 h4
                exact ⟨q + 1, B, B + D, l', rfl, by go_num, by omega, by omega, by omega, by omega, ⟨by rw [Nat.succ_mul, ← hA, eB]⟩, ⟨h1⟩, ⟨by rw [eB]; have := dn_step (kf := kf) (D := D) (q := q) (l := l) (l' := l') (by rw [← hA]; exact HDN.out) (by rw [← hA]; exact h3) (by rw [← hA]; exact h2); rwa [Nat.succ_mul, ← hA] at this⟩, ⟨by rw [eB, hD]; rw [hD] at h4; exact bk_step HB.out h4⟩, ⟨h6⟩, ⟨h5⟩⟩
            · have hltz3 : ¬ (B : Int) ≤ (N : Int) := by omega
              by_cases hlt4 : M < N
              · have hltz4 : (M : Int) < (N : Int) := by omega
                have hc := HSYM.out wr A M N l hMb.1 hlt4 (Nat.le_refl _) HL.out (by have := HK0.out (by omega); rwa [Nat.min_eq_left (by omega)] at this) (by have h := HB.out 1 (by have := HM.out; omega); have h1 := HM.out; have h2 := HD.out; rw [Nat.one_mul, ← h1, Nat.min_eq_right (by omega)] at h; exact h) HPP.out HS.out
                go_wp2_with (go_at_call 121; with_reducible refine hc.mono ?_; clear hc; rintro e w3 ⟨rfl, hp⟩; have HP := Aside0.mk hp; clear hp)
                go_roundg (N - D)
                case measure => omega
                case rel =>
                  obtain ⟨l', h1, h2, ⟨h3, h4⟩, h6, h5⟩ := HP.out
                  have hA := HA.out
                  exact ⟨D, l', rfl, by omega, by omega, by omega, ⟨h1⟩, ⟨bk_done (q := q) (by rw [← hA]; exact hAN) (by rw [← hA]; omega) (fun k hk => h3 _ _ (by rw [hA]; exact hk) (HDN.out k (by rw [hA]; exact hk))) (fun _ => by rw [← hA]; exact h2)⟩, ⟨h6⟩, ⟨h5⟩⟩
              · have hltz4 : ¬ (M : Int) < (N : Int) := by omega
                go_wp2
                go_roundg (N - D)
                case measure => omega
                case rel =>
                  have hA := HA.out
                  exact ⟨D, l, rfl, by omega, by omega, by omega, HL, ⟨bk_done (q := q) (by rw [← hA]; exact hAN) (by rw [← hA]; omega) (by rw [← hA]; exact HDN.out) (fun h => by rw [← hA]; have := HK0.out (by rw [hA]; exact h); rwa [Nat.min_eq_right (by omega)] at this)⟩, HPP, HS⟩
        · have hltz2 : ¬ (bs : Int) < (N : Int) := by omega
          go_wp2
          go_end0
          refine ⟨rfl, ?_⟩
          have hseg : Seg kf l 0 N := by
            by_cases h0 : 0 < N
            · have := HB.out 0 (by omega)
              simpa [Nat.min_eq_right (show N ≤ bs by omega)] using this
            · have : N = 0 := by omega
              subst this
              exact ⟨by simp [sub], by simp [sub, irange]⟩
          rw [← seg_all HL.out hseg]
          exact HS.out
theorem sortStable_c (w : World) (S : SW eI w0 blk off (irange 0 N).toArray w) :
    Calls Try.prog 98 #[.slice (some ⟨blk, off, none⟩) N cap, .func (.func g) #[] cb] w fun e w' => e = .returned (.tuple #[]) ∧ SW eI w0 blk off (byL kf N).toArray w' := by
  have HC := Aside0.mk (stable_c (kf := kf) (cap := cap) R hs hcmp eg hsz w S)
  clear S hcmp R hs eg
  go_enter Try.func98, Try.ntmps98
  go_wp2_with (go_at_call 111; with_reducible refine HC.out.mono ?_; rintro e w2 ⟨rfl, hp⟩)
  go_end0
  exact ⟨rfl, hp⟩
end
end Go.Proofs.Ytningpmoojnomaa.Pr
end
section
namespace Go.Proofs.Ytningpmoojnomaa.Pr
open Go.RowKit Go.Sort Go.Shelf Go.Proofs.YtningpmoojnomaaW.PrintWords Go.Proofs.YtningpmoojnomaaW.PrintLast Go.Proofs.YtningpmoojnomaaW.PrintMore
set_option linter.unusedVariables false
set_option linter.unusedSimpArgs false
theorem heap_put {w : World} {g m : Nat} {e : TypeId} {cur : Array Value} {F : Array Value} (os : Array Obj) (hb : w.heap[g]? = some (.cells cur e (0, 0))) :
    (grow (putRow id (Sort.ahead w m) g 0 F) os).heap[g]? = some (.cells (putCells id 0 F cur) e (0, 0)) := by
  have hg : g < w.heap.size := (Array.getElem?_eq_some_iff.1 hb).1
  have h1 : (putRow id (Sort.ahead w m) g 0 F).heap[g]? = some (.cells (putCells id 0 F cur) e (0, 0)) := by
    simp only [putRow, mapBlock, Sort.ahead, Array.getElem?_modify, if_true, hb, Option.map_some, onCells]
  unfold grow
  simp only
  rw [Array.getElem?_append_left (by simpa [putRow, mapBlock, Sort.ahead] using hg)]
  exact h1
theorem grownBy_put {w : World} {g m : Nat} {os : Array Obj} (F : Array Value) : w.grownBy (grow (putRow id (Sort.ahead w m) g 0 F) os) (some g) := by
  refine ⟨rfl, rfl, rfl, by simp [grow, putRow, mapBlock, Sort.ahead], fun k hk hne => ?_⟩
  have : g ≠ k := fun e => hne (by rw [e])
  unfold grow
  simp only
  rw [Array.getElem?_append_left (by simpa [putRow, mapBlock, Sort.ahead] using hk)]
  simp [putRow, mapBlock, Sort.ahead, Array.getElem?_modify, this]
theorem take_put (cur : Array Value) (ts : List Value) (h : ts.length ≤ cur.size) : (putCells id 0 ts.toArray cur).toList.take ts.length = ts := by
  apply List.ext_getElem
  · simp [putCells]
    omega
  · intro i h1 h2
    simp only [putCells, List.getElem_take, Array.getElem_toList, Array.getElem_mapIdx]
    rw [if_pos ⟨by omega, by simpa using h2⟩]
    simp only [id, Nat.sub_zero]
    rw [getElem!_pos _ i (by simpa using h2)]
    simp
theorem own_put {w : World} {base g cap n k m : Nat} {e : TypeId} {os : Array Obj} {cur : Array Value} {ts : List Value} (hbase : base ≤ g) (hb : w.heap[g]? = some (.cells cur e (0, 0)))
    (h1 : n ≤ cap) (h2 : cap ≤ maxLen) (h3 : cur.size = cap * k) (hl : ts.length = n * k) :
    (grow (putRow id (Sort.ahead w m) g 0 ts.toArray) os).ownsRow base e k (.slice (some ⟨g, 0, none⟩) n cap) n ts := by
  refine ⟨hl, .inr ⟨g, cap, _, rfl, hbase, heap_put os hb, h1, h2, by simp [putCells, h3], ?_⟩⟩
  rw [← hl]
  exact take_put cur ts (by rw [hl, h3]; exact Nat.mul_le_mul_right _ h1)
/-- A span's two cells. -/
def encS (x : S32) : List Value := [.int .i64 x.f0, .int .i64 x.f1]
instance : Inhabited S32 := ⟨z32⟩
theorem reps_flat (w : World) (base : Nat) (ok : Nat → Prop) (ts : List S32) : Reps (k32.M w base ok) 2 ts (flatK encS 2 ts.toArray).toList := by
  refine ⟨by simp, fun j p hj => ?_⟩
  obtain ⟨hjl, hp⟩ := List.getElem?_eq_some_iff.1 hj
  have : ((flatK encS 2 ts.toArray).toList.drop (j * 2)).take 2 = encS p := by
    apply List.ext_getElem
    · simp [encS]
      omega
    · intro i h1 h2
      have hi : i < 2 := by simpa [encS] using h2
      have e1 : (j * 2 + i) / 2 = j := by omega
      have e2 : (j * 2 + i) % 2 = i := by omega
      simp only [List.getElem_take, List.getElem_drop, Array.getElem_toList]
      have hlt : j * 2 + i < (flatK encS 2 ts.toArray).size := by simp; omega
      have := get_flatK encS 2 ts.toArray (j * 2 + i) (by simp; omega)
      rw [getElem!_pos (flatK encS 2 ts.toArray) (j * 2 + i) hlt, e1, e2] at this
      rw [this]
      rw [getElem!_pos ts.toArray j (by simpa using hjl)]
      simp only [List.getElem_toArray, hp]
      rw [getElem!_pos (encS p) i (by simpa [encS] using hi)]
  rw [this]
  exact k32_mkM w base ok p
/-- WHAT IS OWNED IS HELD, and laid anew it is owned again. -/
theorem own_bridge {W : World} {base g n cap : Nat} {ok : Nat → Prop} {xs : List S32} (h : Kd.R k32 32 W base ok (.slice (some ⟨g, 0, none⟩) n cap) xs) :
    n = xs.length ∧ HoldsK encS 2 W g 0 xs.toArray ∧ g < W.heap.size ∧ base ≤ g ∧ ∀ (m : Nat) (os : Array Obj) (d : List S32), d.length = xs.length →
      Kd.R k32 32 (sortWorldK encS 2 W g 0 m d.toArray os) base ok (.slice (some ⟨g, 0, none⟩) n cap) d ∧ W.grownBy (sortWorldK encS 2 W g 0 m d.toArray os) (some g) := by
  have hn := (Kd.R_reads' h).1
  subst hn
  refine ⟨rfl, ?_, ?_⟩
  · intro j hj
    have hj' : j < xs.length * 2 := by simpa using hj
    have hq : j / 2 < xs.length := by omega
    obtain ⟨ce, hcl, hM, hcc, hfr⟩ := Kd.R_elem h z32 ((j / 2 : Nat) : Int) (by omega) (by omega)
    obtain rfl := k32_openM hM
    rw [get_flatK _ _ _ _ (by simpa using hj')]
    rw [Int.toNat_natCast] at hcc hfr
    rw [getElem!_pos xs.toArray (j / 2) (by simpa using hq)]
    have e0 : 0 + j = j / 2 * 2 + j % 2 := by omega
    rw [e0]
    have ex : xs.getD (j / 2) z32 = xs[j / 2] := by simp [List.getD_eq_getElem?_getD, List.getElem?_eq_getElem hq]
    refine ⟨hcc (j % 2) _ ?_, hfr (j % 2)⟩
    rw [ex]
    rcases Nat.mod_two_eq_zero_or_one j with e | e <;> rw [e] <;> simp [encS]
  · obtain ⟨h0, inner, hown, hr⟩ := h
    rcases hown.2 with ⟨e, _⟩ | ⟨g', cap', cur, e, hbase, hb, h1, h2, h3, h4⟩
    · cases e
    · injection e with e1 _ e3
      injection e1 with e1
      injection e1 with e1
      subst e1 e3
      refine ⟨(Array.getElem?_eq_some_iff.1 hb).1, hbase, fun m os d hd => ⟨⟨h0, _, ?_, reps_flat _ _ _ d⟩, grownBy_put _⟩⟩
      have := own_put (w := W) (base := base) (g := g) (cap := cap) (n := xs.length) (k := 2) (m := m) (e := 32) (os := os) (cur := cur) (ts := (flatK encS 2 d.toArray).toList) hbase hb h1 h2 h3 (by simp [hd])
      rw [hd]
      unfold sortWorldK putRowK
      rw [Array.toArray_toList] at this
      exact this
end Go.Proofs.Ytningpmoojnomaa.Pr
end
section
namespace Go.Proofs.Ytningpmoojnomaa.Pr
open Go.RowKit Go.Sort Go.Proofs.YtningpmoojnomaaW.PrintWords Go.Proofs.YtningpmoojnomaaW.PrintLast Go.Proofs.YtningpmoojnomaaW.PrintMore
set_option linter.unusedVariables false
set_option linter.unusedSimpArgs false
def RowI (w : World) (base : Nat) (v : Value) (l : List Int) : Prop := w.ownsRow base 3 1 v l.length (l.map (Value.int .i64))
theorem cur_at {cur : Array Value} {l : List Int} (h : cur.toList.take l.length = l.map (Value.int .i64)) (j : Nat) (hj : j < l.length) : cur[j]? = some (.int .i64 l[j]) := by
  have := congrArg (fun z => z[j]?) h
  simp only [List.getElem?_take, if_pos hj, List.getElem?_map, List.getElem?_eq_getElem hj, Option.map_some] at this
  simpa using this
theorem row_holds {w : World} {g : Nat} {cur : Array Value} {l : List Int} (hb : w.heap[g]? = some (.cells cur 3 (0, 0))) (h : cur.toList.take l.length = l.map (Value.int .i64)) : Holds (Value.int .i64) w g 0 l.toArray := by
  intro j hj
  have hj' : j < l.length := by simpa using hj
  refine ⟨?_, blk_frozen hb _⟩
  rw [blk_cell hb, Nat.zero_add, cur_at h j hj', getElem!_pos l.toArray j hj]
  simp
theorem putRow_id (w : World) (g : Nat) (d : List Int) : putRow (Value.int .i64) w g 0 d.toArray = putRow id w g 0 (d.map (Value.int .i64)).toArray := by
  unfold putRow
  congr 1
  funext c
  unfold putCells
  congr 1
  funext k x
  simp only [Nat.zero_le, true_and, Nat.zero_add, Nat.sub_zero, List.size_toArray, List.length_map, id]
  by_cases hk : k < d.length
  · rw [if_pos hk, if_pos hk, getElem!_pos d.toArray k (by simpa using hk), getElem!_pos (d.map (Value.int .i64)).toArray k (by simpa using hk)]
    simp
  · rw [if_neg hk, if_neg hk]
/-- Laid anew it is owned again; its first m numbers are owned by the slice cut to m. -/
theorem row_put {w : World} {base g c : Nat} {cur : Array Value} {d : List Int} {n : Nat} (m : Nat) (os : Array Obj) (h1 : base ≤ g) (h2 : w.heap[g]? = some (.cells cur 3 (0, 0))) (h3 : n ≤ c) (h4 : c ≤ maxLen) (h5 : cur.size = c) (hd : d.length = n) (q : Nat) (hq : q ≤ n) :
    RowI (grow (putRow (Value.int .i64) (Sort.ahead w m) g 0 d.toArray) os) base (.slice (some ⟨g, 0, none⟩) q c) (d.take q) ∧ w.grownBy (grow (putRow (Value.int .i64) (Sort.ahead w m) g 0 d.toArray) os) (some g) := by
  rw [putRow_id]
  refine ⟨?_, grownBy_put _⟩
  have := own_put (w := w) (base := base) (g := g) (cap := c) (n := n) (k := 1) (m := m) (e := 3) (os := os) (cur := cur) (ts := d.map (Value.int .i64)) h1 h2 h3 h4 (by omega) (by simp [hd])
  rcases this with ⟨_, ⟨e, _⟩ | ⟨g', cap', cur', e, a1, a2, a3, a4, a5, a6⟩⟩
  · cases e
  · injection e with e1 _ e3
    injection e1 with e1
    injection e1 with e1
    subst e1 e3
    have hlen : (d.take q).length = q := by rw [List.length_take]; omega
    refine ⟨by simp, .inr ⟨g, c, cur', by rw [hlen], a1, a2, by omega, a4, a5, ?_⟩⟩
    rw [hlen, Nat.mul_one, List.map_take, ← a6, List.take_take]
    congr 1
    omega
end Go.Proofs.Ytningpmoojnomaa.Pr
end
section
namespace Go.Proofs
open Go.Shelf
def Try.lays122_ren : Go.Shelf.Ren := ⟨fun | 122 => 68 | 215 => 95 | n => n, fun | 3 => 3 | 4 => 4 | n => n, fun | n => n⟩
theorem Try.lays122 : Go.Proofs.Lays.n122 Try.prog Try.lays122_ren := {
  mixed := by kernel_rfl
  f122 := Try.func68.trans (congrArg some (by kernel_rfl))
  f215 := Try.func95.trans (congrArg some (by kernel_rfl))
  t3 := Try.underlying3
  a3 := Try.isAgg3
  z3 := Try.sizeOf3
  v3 := Try.zeroValue3
  t4 := Try.underlying4
  a4 := Try.isAgg4
  z4 := Try.sizeOf4
  v4 := Try.zeroValue4 }
open Go.RowKit in
/-- cmp.Compare at int: "Compare returns -1 if x is less than y, 0 if x equals y, +1 if x is greater than y.": IT RETURNS 'Lib.compareInt x y'; the world is asx it was. (LAID: no walk: one application.) -/
theorem Try.cmp_Compare_int (x y : Int) (w : World) :
    Calls Try.prog 68 #[.int .i64 x, .int .i64 y] w fun e w' => e = .returned (.int .i64 (Lib.compareInt x y)) ∧ w' = w := Any.cmp_Compare_int Try.lays122 x y w
def Try.sort66_ren : Go.Shelf.Ren := ⟨fun | 6 => 66 | 15 => 94 | 14 => 93 | 28 => 109 | 29 => 110 | 20 => 101 | 21 => 102 | 22 => 103 | 23 => 104 | 24 => 105 | 25 => 106 | 26 => 107 | 27 => 108 | 46 => 115 | 47 => 116 | 48 => 117 | 49 => 118 | 50 => 119 | 57 => 123 | n => n, fun | 22 => 22 | 24 => 32 | 25 => 69 | 3 => 3 | 39 => 85 | 0 => 0 | 53 => 101 | 55 => 103 | 4 => 4 | 46 => 94 | 45 => 93 | 50 => 98 | 5 => 5 | 9 => 9 | 66 => 109 | 70 => 113 | 76 => 118 | 77 => 119 | n => n, fun | n => n⟩
theorem Try.sort66 : Go.Proofs.SlLaysF0.n6 Try.prog Try.sort66_ren := {
  mixed := by kernel_rfl
  f6 := ⟨Try.f66.name, by decide, Try.func66.trans (congrArg some (by kernel_rfl))⟩
  f14 := ⟨Try.f93.name, by decide, Try.func93.trans (congrArg some (by kernel_rfl))⟩
  f15 := Try.func94.trans (congrArg some (by kernel_rfl))
  f20 := ⟨Try.f101.name, by decide, Try.func101.trans (congrArg some (by kernel_rfl))⟩
  f21 := ⟨Try.f102.name, by decide, Try.func102.trans (congrArg some (by kernel_rfl))⟩
  f22 := ⟨Try.f103.name, by decide, Try.func103.trans (congrArg some (by kernel_rfl))⟩
  f23 := ⟨Try.f104.name, by decide, Try.func104.trans (congrArg some (by kernel_rfl))⟩
  f24 := ⟨Try.f105.name, by decide, Try.func105.trans (congrArg some (by kernel_rfl))⟩
  f25 := ⟨Try.f106.name, by decide, Try.func106.trans (congrArg some (by kernel_rfl))⟩
  f26 := ⟨Try.f107.name, by decide, Try.func107.trans (congrArg some (by kernel_rfl))⟩
  f27 := ⟨Try.f108.name, by decide, Try.func108.trans (congrArg some (by kernel_rfl))⟩
  f28 := Try.func109.trans (congrArg some (by kernel_rfl))
  f29 := Try.func110.trans (congrArg some (by kernel_rfl))
  f46 := ⟨Try.f115.name, by decide, Try.func115.trans (congrArg some (by kernel_rfl))⟩
  f47 := Try.func116.trans (congrArg some (by kernel_rfl))
  f48 := Try.func117.trans (congrArg some (by kernel_rfl))
  f49 := ⟨Try.f118.name, by decide, Try.func118.trans (congrArg some (by kernel_rfl))⟩
  f50 := ⟨Try.f119.name, by decide, Try.func119.trans (congrArg some (by kernel_rfl))⟩
  f57 := ⟨Try.f123.name, by decide, Try.func123.trans (congrArg some (by kernel_rfl))⟩
  t0 := Try.underlying0
  a0 := Try.isAgg0
  z0 := Try.sizeOf0
  v0 := Try.zeroValue0
  t3 := Try.underlying3
  a3 := Try.isAgg3
  z3 := Try.sizeOf3
  v3 := Try.zeroValue3
  t4 := Try.underlying4
  a4 := Try.isAgg4
  z4 := Try.sizeOf4
  v4 := Try.zeroValue4
  t5 := Try.underlying5
  a5 := Try.isAgg5
  z5 := Try.sizeOf5
  v5 := Try.zeroValue5
  t9 := Try.underlying9
  a9 := Try.isAgg9
  z9 := Try.sizeOf9
  v9 := Try.zeroValue9
  t22 := Try.underlying22
  a22 := Try.isAgg22
  z22 := Try.sizeOf22
  v22 := Try.zeroValue22
  t25 := Try.underlying69
  a25 := Try.isAgg69
  z25 := Try.sizeOf69
  v25 := Try.zeroValue69
  t39 := Try.underlying85
  a39 := Try.isAgg85
  z39 := Try.sizeOf85
  v39 := Try.zeroValue85
  t45 := Try.underlying93
  a45 := Try.isAgg93
  z45 := Try.sizeOf93
  v45 := Try.zeroValue93
  t46 := Try.underlying94
  a46 := Try.isAgg94
  z46 := Try.sizeOf94
  v46 := Try.zeroValue94
  t50 := Try.underlying98
  a50 := Try.isAgg98
  z50 := Try.sizeOf98
  v50 := Try.zeroValue98
  t53 := Try.underlying101
  a53 := Try.isAgg101
  z53 := Try.sizeOf101
  v53 := Try.zeroValue101
  t55 := Try.underlying103
  a55 := Try.isAgg103
  z55 := Try.sizeOf103
  v55 := Try.zeroValue103
  t66 := Try.underlying109
  a66 := Try.isAgg109
  z66 := Try.sizeOf109
  v66 := Try.zeroValue109
  t70 := Try.underlying113
  a70 := Try.isAgg113
  z70 := Try.sizeOf113
  v70 := Try.zeroValue113
  t76 := Try.underlying118
  a76 := Try.isAgg118
  z76 := Try.sizeOf118
  v76 := Try.zeroValue118
  t77 := Try.underlying119
  a77 := Try.isAgg119
  z77 := Try.sizeOf119
  v77 := Try.zeroValue119 }
end Go.Proofs
end
section
namespace Go.Proofs.Ytningpmoojnomaa.Pr
open Go.Shelf Go.RowKit Go.Lib Go.Sort Go.Proofs.YtningpmoojnomaaW.PrintWords Go.Proofs.YtningpmoojnomaaW.PrintLast Go.Proofs.YtningpmoojnomaaW.PrintMore
set_option linter.unusedVariables false
set_option linter.unusedSimpArgs false
/-- The key of an index. -/
def kfS (key : S32 → Int) (l : List S32) (i : Int) : Int := key (l.getD i.toNat z32)
/-- What is asked of a key: it answers; it may lay blocks. -/
def KeyAt (fk : Nat) (key : S32 → Int) : Prop := ∀ (W : World) (a b : Int), Calls Try.prog fk #[.agg #[.int .i64 a, .int .i64 b]] W fun e w' => e = .returned (.int .i64 (key ⟨a, b⟩)) ∧ ∃ q os', w' = grow (W.drewN q) os'
set_option maxHeartbeats 1000000 in
theorem key97 : KeyAt 97 (fun s => s.f1) := by
  intro W a b
  have hu32 := Try.underlying32
  go_enter Try.func97, Try.ntmps97
  go_wp2
  go_ret
  exact ⟨rfl, 0, _, by rw [alloc_eq_grow]; rfl⟩
theorem grownBy_sort (w : World) (blk off m : Nat) (d : Array Int) (os : Array Obj) : w.grownBy (sortWorld eI w blk off m d os) (some blk) := by
  refine ⟨rfl, rfl, rfl, by simp [sortWorld, grow, putRow, mapBlock, Sort.ahead], fun k hk hne => ?_⟩
  have : blk ≠ k := fun e => hne (by rw [e])
  unfold sortWorld grow
  simp only
  rw [Array.getElem?_append_left (by simpa [putRow, mapBlock, Sort.ahead] using hk)]
  simp [putRow, mapBlock, Sort.ahead, Array.getElem?_modify, this]
theorem cell_grownBy {w w' : World} {row : Option Nat} (h : w.grownBy w' row) {a : Addr} {v : Value} (hne : some a.block ≠ row) (hc : w.cell? a = some v) : w'.cell? a = some v := by
  have hb := World.block_lt_of_cell? w a hc
  have := h.block a.block hb hne
  unfold World.cell? at hc ⊢
  rw [this]
  exact hc
theorem grownBy_grow (w : World) (n : Nat) (os : Array Obj) : w.grownBy (grow (w.drewN n) os) none := by
  refine ⟨rfl, rfl, rfl, by simp [grow], fun k hk _ => ?_⟩
  unfold grow
  simp only
  rw [Array.getElem?_append_left (by simpa using hk)]
  rfl
set_option maxHeartbeats 4000000 in
set_option maxRecDepth 100000 in
theorem closure99 (fk : Nat) (key : S32 → Int) (egk : ∀ args w, (callFunc fk args).run Try.prog w = .ok (.enter fk args) w) (hkey : KeyAt fk key) (Bk Bl : Nat) (A0 : Option Addr) (c0 : Nat) (l0 : List S32) (W : World) (hl : Kd.C k32 W A0 l0.length l0)
    (hb1 : W.cell? ⟨Bk, 0, none⟩ = some (.func (.func fk) #[] #[])) (hb2 : W.cell? ⟨Bl, 0, none⟩ = some (.slice A0 l0.length c0)) (x y : Int) (hx : 0 ≤ x ∧ x < (l0.length : Int)) (hy : 0 ≤ y ∧ y < (l0.length : Int)) :
    Calls Try.prog 99 (#[eI x, eI y] ++ #[.pointer (some ⟨Bk, 0, none⟩), .pointer (some ⟨Bl, 0, none⟩)]) W fun e w' => e = .returned (.int .i64 (cfK (kfS key l0) x y)) ∧ ∃ q os', w' = grow (W.drewN q) os' := by
  have mixed := mixedT
  have hu32 := Try.underlying32
  obtain ⟨ad, e, hx0, hx1⟩ := at_T32 hl x hx.1 hx.2
  subst e
  obtain ⟨ad', e', hy0, hy1⟩ := at_T32 hl y hy.1 hy.2
  injection e' with e'
  subst e'
  have HK := Aside0.mk (show ∀ n os (a b : Int), Calls Try.prog fk #[.agg #[.int .i64 a, .int .i64 b]] (grow (W.drewN n) os) fun e w' => e = .returned (.int .i64 (key ⟨a, b⟩)) ∧ ∃ q os', w' = grow ((grow (W.drewN n) os).drewN q) os' from fun n os a b => hkey _ a b)
  have HCM := Aside0.mk (show ∀ n os (a b : Int), Calls Try.prog 68 #[.int .i64 a, .int .i64 b] (grow (W.drewN n) os) fun e w' => e = .returned (.int .i64 (Lib.compareInt a b)) ∧ ∃ q os', w' = grow ((grow (W.drewN n) os).drewN q) os' from fun n os a b => (Try.cmp_Compare_int a b _).mono fun e w' ⟨h1, h2⟩ => ⟨h1, 0, #[], by rw [grow_empty]; exact h2⟩)
  have g1 : ∀ n os, (grow (W.drewN n) os).cell? ⟨Bk, 0, none⟩ = some (.func (.func fk) #[] #[]) := fun n os => cell_grownBy (grownBy_grow W n os) (by simp) hb1
  have g2 : ∀ n os, (grow (W.drewN n) os).cell? ⟨Bl, 0, none⟩ = some (.slice (some ad) l0.length c0) := fun n os => cell_grownBy (grownBy_grow W n os) (by simp) hb2
  have gx0 := fun n os => cell_grownBy (grownBy_grow W n os) (by simp) hx0
  have gx1 := fun n os => cell_grownBy (grownBy_grow W n os) (by simp) hx1
  have gy0 := fun n os => cell_grownBy (grownBy_grow W n os) (by simp) hy0
  have gy1 := fun n os => cell_grownBy (grownBy_grow W n os) (by simp) hy1
  have ekx : key ⟨(rd_T32 l0 x).f0, (rd_T32 l0 x).f1⟩ = kfS key l0 x := rfl
  have eky : key ⟨(rd_T32 l0 y).f0, (rd_T32 l0 y).f1⟩ = kfS key l0 y := rfl
  have EX := Aside0.mk ekx
  have EY := Aside0.mk eky
  obtain ⟨kx0, kx1, ky0, ky1⟩ := And.intro hx.1 (And.intro hx.2 hy)
  clear hx hy hb1 hb2 hx0 hx1 hy0 hy1 hl hkey ekx eky
  generalize rd_T32 l0 x = sx at gx0 gx1 EX
  generalize rd_T32 l0 y = sy at gy0 gy1 EY
  simp only [List.push_toArray, List.append_toArray, List.nil_append, List.cons_append]
  go_enter Try.func99, Try.ntmps99
  go_wp2
  go_quiet_grown (first | (go_at_fn fk; refine Calls.grown_of (HK.out _ _ _ _)) | (go_at_call 68; refine Calls.grown_of (HCM.out _ _ _ _)))
  rw [EX.out, EY.out]
  go_wp2
  go_ret
  exact ⟨rfl, _, _, rfl⟩
/-- The first k indexes, then zeros. -/
def idxF (n k : Nat) : List Int := irange 0 k ++ List.replicate (n - k) 0
theorem idxF_len (n k : Nat) (h : k ≤ n) : (idxF n k).length = n := by unfold idxF; simp [irange_len]; omega
theorem idxF_set (n k : Nat) (h : k < n) : (idxF n k).set k (k : Int) = idxF n (k + 1) := by
  unfold idxF
  rw [List.set_append_right _ _ (by rw [irange_len]; omega), irange_len, ← irange_append 0 k (k + 1) (by omega) (by omega), List.append_assoc]
  congr 1
  rw [show k - (k - 0) = 0 by omega, show n - k = (n - (k + 1)) + 1 by omega, List.replicate_succ, List.set_cons_zero]
  have : irange k (k + 1) = [(k : Int)] := by
    unfold irange
    rw [show k + 1 - k = 1 by omega]
    rfl
  rw [this]
  rfl
theorem idxF_all (n : Nat) : idxF n n = irange 0 n := by unfold idxF; simp
theorem oneI : OneCell eI := fun x => rfl
theorem make_form {w : World} {base : Nat} {ok : Nat → Prop} {v : Value} {xs : List Int} (h : Kd.R (Kd.int .i64) 3 w base ok v xs) (hn : ∃ b, v.ownBlock = some b ∧ base ≤ b) : ∃ g cap, v = .slice (some ⟨g, 0, none⟩) xs.length cap ∧ base ≤ g ∧ g < w.heap.size := by
  have ho := Kd.own_of_R h
  rcases ho.2 with ⟨rfl, _⟩ | ⟨g, cap, cur, rfl, h1, h2, _⟩
  · obtain ⟨b, hb, _⟩ := hn
    simp [Value.ownBlock] at hb
  · exact ⟨g, cap, rfl, h1, (Array.getElem?_eq_some_iff.1 h2).1⟩
set_option maxHeartbeats 4000000 in
set_option maxRecDepth 100000 in
theorem by_c (fk : Nat) (key : S32 → Int) (egk : ∀ args w, (callFunc fk args).run Try.prog w = .ok (.enter fk args) w) (hkey : KeyAt fk key) (A0 : Option Addr) (c0 : Nat) (l0 : List S32) (w : World) (hr0 : Kd.C k32 w A0 l0.length l0) (hlen : l0.length ≤ 1000) :
    Calls Try.prog 80 #[.slice A0 l0.length c0, .func (.func fk) #[] #[]] w fun e w' => ∃ v, e = .returned v ∧ Kd.R (Kd.int .i64) 3 w' w.heap.size (fun _ => True) v (byL (kfS key l0) l0.length) ∧ Below w.heap.size w w' := by
  have HR0 := Aside0.mk hr0
  have HKEY := Aside0.mk hkey
  have hB0 : Below w.heap.size w ((w.alloc (.cells #[.slice A0 l0.length c0] 22)).alloc (.cells #[.func (.func fk) #[] #[]] 75)) := below_alloc (below_alloc (Below.refl _ _) _) _
  have HB := Aside0.mk hB0
  clear hr0 hkey hB0
  go_enter Try.func80, Try.ntmps80
  go_wp2_with ((with_reducible refine gate_dst (N := 9) rfl ?_); refine Kd.R_make (Kd.int .i64) _ 3 rfl (N := 9) rfl 33 _ _ rfl (l0.length : Int) rfl rfl Try.underlying33 (.int .i64 0) 8 info3 rfl (by decide) (by omega) 0 (ok := fun _ => True) (okp := fun _ => True) rfl (fun _ hk => hk) trivial (by omega) ?hl (Below.refl _ _) (Nat.le_refl _) ?_; (case hl => omega); intro v1 w1 ho1 hb1 hg1 hn1; clear hg1; obtain ⟨g, cap, e, hgb, hgl⟩ := make_form ho1 hn1; subst e; have HO := Aside0.mk ho1; have HB1 := Aside0.mk hb1; clear ho1 hb1 hn1)
  obtain ⟨W2, hW2⟩ : ∃ W2, W2 = (w.alloc (.cells #[.slice A0 l0.length c0] 22)).alloc (.cells #[.func (.func fk) #[] #[]] 75) := ⟨_, rfl⟩
  have hs2 : W2.heap.size = w.heap.size + 2 := by rw [hW2]; simp
  have HC1 := Aside0.mk (show W2.cell? ⟨w.heap.size + 1, 0, none⟩ = some (.func (.func fk) #[] #[]) by rw [hW2]; simp)
  have HC2 := Aside0.mk (show W2.cell? ⟨w.heap.size, 0, none⟩ = some (.slice A0 l0.length c0) by rw [hW2]; simp)
  rw [← hW2] at HO HB1 HB hgb
  have HGB := Aside0.mk hgb
  have HS2 := Aside0.mk hs2
  clear hW2 hs2 hgb
  simp only [List.length_replicate, Int.toNat_natCast] at HO
  go_loopg [12] l0.length (fun gg v12 wr => ∃ kk : Nat, kk ≤ l0.length ∧ l0.length - kk ≤ gg ∧ v12 = .int .i64 kk ∧ Aside0 (Below W2.heap.size W2 wr) ∧ Aside0 (Kd.R (Kd.int .i64) 3 wr W2.heap.size (fun _ => True) (.slice (some ⟨g, 0, none⟩) l0.length cap) (idxF l0.length kk)))
  case atStart => exact ⟨0, Nat.zero_le _, by omega, rfl, HB1, ⟨by unfold idxF; simpa [irange] using HO.out⟩⟩
  case round =>
    clear HO HB1
    obtain ⟨kk, hkk, hg, rfl, HBr, HR⟩ := hrel
    have hel := idxF_len l0.length kk hkk
    by_cases hlt : kk < l0.length
    · have hltz : (kk : Int) < (l0.length : Int) := by omega
      have hr := HR.out
      rw [show Value.slice (some ⟨g, 0, none⟩) l0.length cap = Value.slice (some ⟨g, 0, none⟩) (idxF l0.length kk).length cap by rw [hel]] at hr
      obtain ⟨hx1, hf1⟩ := Kd.R_cell (0 : Int) hr (kk : Int) (by omega) (by omega)
      have HP := Aside0.mk (Kd.R_put hr (kk : Int) (kk : Int)).1
      have HGB2 := HGB
      rw [Int.toNat_natCast] at hx1 hf1
      have HE := Aside0.mk hel
      clear hr hel
      go_wp2
      go_roundg (l0.length - (kk + 1))
      case measure => omega
      case rel =>
        have hp := HP.out
        rw [Int.toNat_natCast, idxF_set _ _ hlt, HE.out] at hp
        exact ⟨kk + 1, by omega, by omega, by go_num, ⟨below_set HBr.out HGB.out⟩, ⟨hp⟩⟩
    · have hltz : ¬ (kk : Int) < (l0.length : Int) := by omega
      have HKK := Aside0.mk (show kk = l0.length by omega)
      have hro := HR.out
      rw [HKK.out, idxF_all] at hro
      have ho := Kd.own_of_R hro
      rw [irange_len, Nat.sub_zero] at ho
      rcases ho.2 with ⟨e, _⟩ | ⟨g', cap', cur, e, q1, q2, q3, q4, q5, q6⟩
      · cases e
      injection e with e1 _ e3
      injection e1 with e1
      injection e1 with e1
      subst e1 e3
      have q6' : cur.toList.take (irange 0 l0.length).length = (irange 0 l0.length).map (Value.int .i64) := by rw [irange_len, Nat.sub_zero]; simpa [encs] using q6
      have hH : Holds eI wr g 0 (irange 0 l0.length).toArray := row_holds q2 q6'
      have hgl2 : g < wr.heap.size := (Array.getElem?_eq_some_iff.1 q2).1
      have hsz0 : (irange 0 l0.length).toArray.size = l0.length := by simp [irange_len]
      have hsp : Kd.C k32 wr A0 l0.length l0 := Kd.C_below (Kd.C_below HR0.out HB.out) HBr.out
      have hspw : ∀ m os (dk : Array Int), Kd.C k32 (sortWorld eI wr g 0 m dk os) A0 l0.length l0 := fun m os dk => by
        have hb : Below W2.heap.size wr (sortWorld eI wr g 0 m dk os) := (Below.refl _ _).grown (grownBy_sort wr g 0 m dk os) HBr.out.size (fun k hk => by cases hk; exact HGB.out)
        exact Kd.C_below (Kd.C_below HR0.out HB.out) (HBr.out.trans hb)
      have hcc1 : ∀ m os (dk : Array Int), (sortWorld eI wr g 0 m dk os).cell? ⟨w.heap.size + 1, 0, none⟩ = some (.func (.func fk) #[] #[]) := fun m os dk => cell_grownBy (grownBy_sort wr g 0 m dk os) (by have := HGB.out; have := HS2.out; simp; omega) ((HBr.out.cell (p := ⟨w.heap.size + 1, 0, none⟩) (by have := HS2.out; simp; omega)).trans HC1.out)
      have hcc2 : ∀ m os (dk : Array Int), (sortWorld eI wr g 0 m dk os).cell? ⟨w.heap.size, 0, none⟩ = some (.slice A0 l0.length c0) := fun m os dk => cell_grownBy (grownBy_sort wr g 0 m dk os) (by have := HGB.out; have := HS2.out; simp; omega) ((HBr.out.cell (p := ⟨w.heap.size, 0, none⟩) (by have := HS2.out; simp; omega)).trans HC2.out)
      have hc := sortStable_c (kf := kfS key l0) (g := 99) (cb := #[.pointer (some ⟨w.heap.size + 1, 0, none⟩), .pointer (some ⟨w.heap.size, 0, none⟩)]) (blk := g) (off := 0) (cap := cap) (N := l0.length) (d0 := (irange 0 l0.length).toArray) (w0 := wr) ⟨oneI, hH, hgl2⟩ hsz0
        (fun m os dk hdk x y hx hy => closure99 fk key egk HKEY.out _ _ A0 c0 l0 _ (hspw m os dk) (hcc1 m os dk) (hcc2 m os dk) x y hx hy) (enters_of Try.func99 (by kernel_rfl) rfl) (by omega) wr (SW.start hH)
      have HC := Aside0.mk hc
      have HPUT := Aside0.mk (fun m os => row_put (w := wr) (base := W2.heap.size) (g := g) (c := cap) (cur := cur) (d := byL (kfS key l0) l0.length) (n := l0.length) m os q1 q2 q3 q4 (by omega) (by rw [(byL_perm _ _).length_eq, irange_len, Nat.sub_zero]) l0.length (Nat.le_refl _))
      clear hc hH hgl2 hsz0 hsp hspw hcc1 hcc2 q1 q2 q3 q4 q5 q6 q6' ho hro hel HR
      go_wp2_with (go_at_call 98; (with_reducible refine HC.out.mono ?_); rintro e w3 ⟨rfl, n3, os3, rfl⟩)
      go_ret
      obtain ⟨p1, p2⟩ := HPUT.out n3 os3
      refine ⟨_, rfl, ?_, ?_⟩
      · refine Kd.R_lower ?_ (show w.heap.size ≤ W2.heap.size from HB.out.size)
        rw [List.take_of_length_le (by rw [(byL_perm _ _).length_eq, irange_len]; omega)] at p1
        exact Kd.R_of_own p1 (fun _ _ => trivial)
      · exact (HB.out.trans (HBr.out.mono HB.out.size)).grown p2 (Nat.le_trans HB.out.size HBr.out.size) (fun k hk => by cases hk; exact Nat.le_trans HB.out.size HGB.out)
end Go.Proofs.Ytningpmoojnomaa.Pr
end
section
namespace Go.Proofs.Ytningpmoojnomaa.Pr
open Go.RowKit Go.Proofs.YtningpmoojnomaaW.PrintWords Go.Proofs.YtningpmoojnomaaW.PrintLast Go.Proofs.YtningpmoojnomaaW.PrintMore
attribute [local go_sem] max2_int min2_int max_two min_two max_three min_three max_four min_four   -- for this text's walks alone
set_option linter.unusedVariables false
set_option linter.unusedSimpArgs false
mutual
def span_joined.l0 : Nat → List (S32) → List (S32) → Int → Int → Option ((List (S32)))
 | 0, _, _, _, _ => none
 | k + 1, x3, x7, x8, x9 => if x9 < x8 then (if 0 ≤ x9 then (if x9 < (x7.length : Int) then (if (x3.length : Int) > 0 then (if 0 ≤ (wrap64 ((x3.length : Int) - 1)) then (if (wrap64 ((x3.length : Int) - 1)) < (x3.length : Int) then (span_joined.j1 k x3 (x3.length : Int) x7 x8 x9 (decide (((rd_T32 x7 x9).f0) ≤ ((rd_T32 x3 (wrap64 ((x3.length : Int) - 1))).f1))) ((rd_T32 x7 x9).f0) ((rd_T32 x7 x9).f1)) else (none)) else (none)) else (span_joined.j1 k x3 (x3.length : Int) x7 x8 x9 false ((rd_T32 x7 x9).f0) ((rd_T32 x7 x9).f1))) else (none)) else (none)) else (some x3)
def span_joined.j1 : Nat → List (S32) → Int → List (S32) → Int → Int → Bool → Int → Int → Option ((List (S32)))
 | 0, _, _, _, _, _, _, _, _ => none
 | k + 1, x3, x6, x7, x8, x9, x27, x104000, x104001 => if x27 = true then (if 0 ≤ (wrap64 (x6 - 1)) then (if (wrap64 (x6 - 1)) < (x3.length : Int) then (span_joined.l0 k (x3.set ((wrap64 (x6 - 1)) : Int).toNat (⟨(rd_T32 x3 (wrap64 (x6 - 1))).f0, mx ((rd_T32 x3 (wrap64 (x6 - 1))).f1) x104001⟩ : S32)) x7 x8 (wrap64 (x9 + 1))) else (none)) else (none)) else (if x3.length < 8796093022208 then (span_joined.l0 k (x3 ++ [(⟨x104000, x104001⟩ : S32)]) x7 x8 (wrap64 (x9 + 1))) else (none))
end
def span_joined.f (k : Nat) (l0 : List (S32)) : Option ((List (S32))) := span_joined.l0 k ([] : List (S32)) l0 (l0.length : Int) 0
theorem span_joined.mono_l : ∀ k, (∀ y0 y1 y2 y3, LeO (span_joined.l0 k y0 y1 y2 y3) (span_joined.l0 (k + 1) y0 y1 y2 y3)) ∧ (∀ y0 y1 y2 y3 y4 y5 y6 y7, LeO (span_joined.j1 k y0 y1 y2 y3 y4 y5 y6 y7) (span_joined.j1 (k + 1) y0 y1 y2 y3 y4 y5 y6 y7))
 | 0 => ⟨fun _ _ _ _ r h => by simp [span_joined.l0] at h, fun _ _ _ _ _ _ _ _ r h => by simp [span_joined.j1] at h⟩
 | k + 1 => by
  obtain ⟨ih0, ih1⟩ := span_joined.mono_l k
  refine ⟨?_, ?_⟩
  · intro y0 y1 y2 y3
    unfold span_joined.l0
    repeat' first
    | (with_reducible exact ih0 _ _ _ _)
    | (with_reducible exact ih1 _ _ _ _ _ _ _ _)
    | (with_reducible exact LeO.refl _)
    | (with_reducible exact LeO.none _)
    | (with_reducible refine LeO.ite ?_ ?_)
    | (with_reducible refine LeO.bind ?_ (fun _ => ?_))
    | exact ih0 _ _ _ _
    | exact ih1 _ _ _ _ _ _ _ _
    | exact LeO.none _
    | refine LeO.ite ?_ ?_
    | refine LeO.bind ?_ (fun _ => ?_)
  · intro y0 y1 y2 y3 y4 y5 y6 y7
    unfold span_joined.j1
    repeat' first
    | (with_reducible exact ih0 _ _ _ _)
    | (with_reducible exact ih1 _ _ _ _ _ _ _ _)
    | (with_reducible exact LeO.refl _)
    | (with_reducible exact LeO.none _)
    | (with_reducible refine LeO.ite ?_ ?_)
    | (with_reducible refine LeO.bind ?_ (fun _ => ?_))
    | exact ih0 _ _ _ _
    | exact ih1 _ _ _ _ _ _ _ _
    | exact LeO.none _
    | refine LeO.ite ?_ ?_
    | refine LeO.bind ?_ (fun _ => ?_)
theorem span_joined.mono : ∀ a0 k, LeO (span_joined.f k a0) (span_joined.f (k + 1) a0) := by
 intro a0 k
 obtain ⟨ih0, ih1⟩ := span_joined.mono_l k
 unfold span_joined.f
 repeat' first
  | (with_reducible exact ih0 _ _ _ _)
  | (with_reducible exact ih1 _ _ _ _ _ _ _ _)
  | (with_reducible exact LeO.refl _)
  | (with_reducible exact LeO.none _)
  | (with_reducible refine LeO.ite ?_ ?_)
  | (with_reducible refine LeO.bind ?_ (fun _ => ?_))
  | exact ih0 _ _ _ _
  | exact ih1 _ _ _ _ _ _ _ _
  | exact LeO.none _
  | refine LeO.ite ?_ ?_
  | refine LeO.bind ?_ (fun _ => ?_)
def span_joined.T6 : Bool × List (List Nat × List Nat) := (true, [([], []), ([0], [0]), ([1], [1]), ([2], [2]), ([3, 2], [2, 3]), ([2], [2]), ([2], [2]), ([6, 2], [2, 6]), ([5, 7, 2], [2, 5, 7]), ([8, 2], [2, 8]), ([9, 2], [2, 9]), ([4, 10, 2], [2, 4, 10]), ([2, 11], [2, 11])])
def span_joined.B6 : List Nat := [0, 1, 3, 7, 15, 7, 7, 71, 231, 487, 999, 2047, 4095]
theorem span_joined.tab6 : rtab .any (opsOf Try.f69 6) = span_joined.T6 := by kernel_rfl
theorem span_joined.bits6 : waitsOk span_joined.T6.2 span_joined.B6 = true := by kernel_rfl
def span_joined.T7 : Bool × List (List Nat × List Nat) := (true, [([], []), ([], []), ([1], [1]), ([], []), ([], []), ([4], [4]), ([3, 5], [3, 5]), ([6], [6]), ([7], [7]), ([], []), ([9], [9]), ([8, 10], [8, 10]), ([0, 2, 0, 1, 2, 3, 4, 5, 6, 7, 8, 9, 10, 11], [0, 2]), ([12, 0, 1, 2, 3, 4, 5, 6, 7, 8, 9, 10, 11], [12]), ([13, 11, 0, 1, 2, 3, 4, 5, 6, 7, 8, 9, 10, 11], [11, 13])])
def span_joined.B7 : List Nat := [0, 0, 2, 0, 0, 16, 56, 120, 248, 0, 512, 2040, 4095, 8191, 16383]
theorem span_joined.tab7 : rtab .any (opsOf Try.f69 7) = span_joined.T7 := by kernel_rfl
theorem span_joined.bits7 : waitsOk span_joined.T7.2 span_joined.B7 = true := by kernel_rfl
set_option maxHeartbeats 8000000 in
set_option maxRecDepth 100000 in
theorem span_joined.calls (k : Nat) (A0 : Option Addr) (c0 : Nat) (l0 : List (S32)) (r : List (S32)) (w : World) (hr0 : Kd.C k32 w A0 l0.length l0) (hc0 : l0.length ≤ c0) (h : span_joined.f k l0 = some r) :
 Calls Try.prog 69 #[.slice A0 l0.length c0] w fun e w' => ∃ v0_ : Value, e = .returned (v0_) ∧ Kd.R k32 32 w' w.heap.size (fun _ => True) v0_ r ∧ Below w.heap.size w w' := by
 have hu32 := Try.underlying32
 have HR0 := Aside0.mk hr0
 have HC0 := Aside0.mk hc0
 clear hr0 hc0
 have HB := Aside0.mk (Below.refl w.heap.size w)
 have H : (span_joined.l0 k ([] : List (S32)) l0 (l0.length : Int) 0) = some r := h
 clear h
 have H' := Aside0.mk H
 clear H
 go_enter Try.func69, Try.ntmps69
 go_wp2
 go_loopg [3, 9] k (fun kq v3 v9 w' => ∃ (x3_1 : List (S32)) (x9_1 : Int), v9 = .int .i64 x9_1 ∧ Aside0 (span_joined.l0 kq x3_1 l0 (l0.length : Int) x9_1 = some r) ∧ Aside0 (kq ≤ k) ∧ Aside0 (Kd.R k32 32 w' w.heap.size (fun _ => True) v3 x3_1) ∧ Aside0 (Below w.heap.size w w'))
 case atStart => exact ⟨(([] : List (S32))), (0), (by first | rfl | (simp; done) | (simp [*]; done)), H', ⟨Nat.le_refl _⟩, ⟨by first | exact Kd.R_nil _ _ _ _ _ | exact Kd.N_nil _ _ _ _ _ | exact Kd.V_nil _ _ _ _ _ | exact Kd.Q_nil _ _ _ _ _ | exact Kd.S_nil _ _ _ _ _⟩, ⟨by repeat (first | (with_reducible first | exact HB.out | apply below_alloc | apply pw_below_drewN | apply below_drew1) | exact HB.out)⟩⟩
 case round =>
  clear H'
  obtain ⟨x3_1, x9_1, rfl, HA, HK1, HO_3, HB⟩ := hrel
  cases gk with
  | zero => exact absurd HA.out (by simp [span_joined.l0])
  | succ k1 =>
   have H := HA.out
   clear HA
   simp only [span_joined.l0] at H
   by_cases c2 : x9_1 < (l0.length : Int)
   · rw [if_pos c2] at H
     have c2b0 : decide (x9_1 < (l0.length : Int)) = true := decide_eq_true c2
     clear c2
     by_cases c3 : 0 ≤ x9_1
     · rw [if_pos c3] at H
       have c3b0 : decide (0 ≤ x9_1) = true := decide_eq_true c3
       clear c3
       by_cases c4 : x9_1 < (l0.length : Int)
       · rw [if_pos c4] at H
         have c4b0 : decide (x9_1 < (l0.length : Int)) = true := decide_eq_true c4
         clear c4
         have HC5 := Aside0.mk H
         clear H
         have p102 : 0 ≤ (x9_1 : Int) := of_decide_eq_true (by first | (with_reducible assumption) | assumption)
         have q102 : x9_1 < (l0.length : Int) := of_decide_eq_true (by first | (with_reducible assumption) | assumption)
         obtain ⟨ad102, e102, hx102_0, hx102_1⟩ := at_T32 HR0.out x9_1 p102 q102
         cases e102
         replace hx102_0 := (HB.out.cell (World.block_lt_of_cell? w _ hx102_0)).trans hx102_0
         replace hx102_1 := (HB.out.cell (World.block_lt_of_cell? w _ hx102_1)).trans hx102_1
         replace p102 := eq_true p102
         replace q102 := eq_true q102
         go_upto_region 6 with (first | ((with_reducible refine gate_dst (N := 5) rfl ?_); refine box_event ?hg (N := 5) ?hd (cs := #[.int .i64 0, .int .i64 0]) (t := 32) ?hr ?_; (case hd => rfl); (case hg => rfl); (case hr => first | (go_simp; done) | (go_simp; rfl)); intro gb103 hg w6 hbox hb; have n0_ := Aside0.mk (Kd.R_below (Kd.R_elderB (by (with_reducible repeat (first | apply Kd.R_alloc | apply Kd.R_drewN | apply Kd.R_drew)); exact HO_3.out) gb103 (Nat.le_of_eq hg.symm)) hb); have n1_ := Aside0.mk (below_step (by repeat (first | (with_reducible first | exact HB.out | apply below_alloc | apply pw_below_drewN | apply below_drew1) | exact HB.out)) hb); have n2_ := Aside0.mk (hbox); have n3_ := Aside0.mk ((by rw [hg]; exact (below_size (by repeat (first | (with_reducible first | exact HB.out | apply below_alloc | apply pw_below_drewN | apply below_drew1) | exact HB.out))) : w.heap.size ≤ gb103)); have n4_ := Aside0.mk ((by rw [hg]; exact (below_size (by repeat (first | (with_reducible first | exact HB.out | apply below_alloc | apply pw_below_drewN | apply below_drew1) | exact HB.out))) : w.heap.size ≤ gb103)); clear HO_3; clear HB; have HO_3 := n0_; have HB := n1_; have BK103 := n2_; have GW103 := n3_; have GE103 := n4_; clear n0_ n1_ n2_ n3_ n4_; clear hb hbox hg; have hcz7_0 : w6.cell? ⟨gb103, 0, none⟩ = some (.int .i64 0) := (blk_cell BK103.out 0).trans rfl; have hcz7_1 : w6.cell? ⟨gb103, 1, none⟩ = some (.int .i64 0) := (blk_cell BK103.out 1).trans rfl; have hfz7_0 := blk_frozen BK103.out 0; have hfz7_1 := blk_frozen BK103.out 1; obtain ⟨Ao8, co8, eo8⟩ := Kd.R_slice HO_3.out; subst eo8))
         (try simp only [Act.put, List.setIfInBounds_toArray, List.set_cons_zero, List.set_cons_succ])
         go_cut [27] (fun v27 wc => ∃ (kq : Nat) (x27_4 : Bool), v27 = .bool x27_4 ∧ Aside0 (span_joined.j1 kq x3_1 (x3_1.length : Int) l0 (l0.length : Int) x9_1 x27_4 ((rd_T32 l0 x9_1).f0) ((rd_T32 l0 x9_1).f1) = some r) ∧ Aside0 (kq ≤ k1) ∧ Aside0 (Kd.R k32 32 wc w.heap.size (fun k_ => k_ ≠ gb103) (.slice Ao8 x3_1.length co8) x3_1) ∧ Aside0 (wc.heap[gb103]? = some (.cells #[.int .i64 ((rd_T32 l0 x9_1).f0), .int .i64 ((rd_T32 l0 x9_1).f1)] 32 (0, 0))) ∧ Aside0 (Below w.heap.size w wc))
         case first =>
          have H := HC5.out
          clear HC5
          by_cases c9 : (x3_1.length : Int) > 0
          · rw [if_pos c9] at H
            have c9b0 : decide (0 < (x3_1.length : Int)) = true := decide_eq_true c9
            have c9b1 : decide (0 < x3_1.length) = true := decide_eq_true (by omega)
            clear c9
            (first | rw [c9b0] | (simp only [i64_w, i32_w]; rw [c9b0]) | skip)
            obtain ⟨ji10, hji10⟩ : ∃ j_ : Int, (wrap64 ((x3_1.length : Int) - 1)) = j_ := ⟨_, rfl⟩
            replace H : (if 0 ≤ (ji10) then (if (ji10) < (x3_1.length : Int) then (span_joined.j1 k1 x3_1 (x3_1.length : Int) l0 (l0.length : Int) x9_1 (decide (((rd_T32 l0 x9_1).f0) ≤ ((rd_T32 x3_1 (ji10)).f1))) ((rd_T32 l0 x9_1).f0) ((rd_T32 l0 x9_1).f1)) else (none)) else (none)) = some r := by first | (rw [hji10] at H; exact H) | (simp only [hji10] at H ⊢; exact H)
            have hji10w : (IntKind.i64.wrap ((x3_1.length : Int) - 1)) = ji10 := (i64_w _).trans hji10
            by_cases c11 : 0 ≤ (ji10)
            · rw [if_pos c11] at H
              have c11b0 : decide (0 ≤ (ji10)) = true := decide_eq_true c11
              clear c11
              by_cases c12 : (ji10) < (x3_1.length : Int)
              · rw [if_pos c12] at H
                have c12b0 : decide ((ji10) < (x3_1.length : Int)) = true := decide_eq_true c12
                clear c12
                have H' := Aside0.mk H
                clear H
                try go_wp2
                have n0_ : Aside0 (Kd.R k32 32 ((w6.setCell ⟨gb103, 0, none⟩ (.int .i64 ((rd_T32 l0 x9_1).f0))).setCell ⟨gb103, 1, none⟩ (.int .i64 ((rd_T32 l0 x9_1).f1))) w.heap.size (fun k_ => k_ ≠ gb103) (.slice Ao8 x3_1.length co8) x3_1) := ⟨by (with_reducible repeat (first | apply Kd.R_alloc | apply Kd.R_drewN | apply Kd.R_drew)); exact Kd.R_mono (Kd.R_far (p := ⟨gb103, 1, none⟩) (Kd.R_far (p := ⟨gb103, 0, none⟩) (Kd.R_mono HO_3.out (fun k_ hk => (⟨hk, hk.2⟩ : _ ∧ k_ ≠ gb103))) (fun _ hk => hk.2) (.int .i64 ((rd_T32 l0 x9_1).f0))) (fun _ hk => hk.2) (.int .i64 ((rd_T32 l0 x9_1).f1))) (fun _ hk => hk.1.2)⟩
                have n1_ : Aside0 (((w6.setCell ⟨gb103, 0, none⟩ (.int .i64 ((rd_T32 l0 x9_1).f0))).setCell ⟨gb103, 1, none⟩ (.int .i64 ((rd_T32 l0 x9_1).f1))).heap[gb103]? = some (.cells #[.int .i64 ((rd_T32 l0 x9_1).f0), .int .i64 ((rd_T32 l0 x9_1).f1)] 32 (0, 0))) := ⟨by (with_reducible repeat (first | refine blk_drewN ?_ _ | refine blk_drew ?_ | refine blk_alloc ?_ _)); refine blk_put (cs := #[.int .i64 ((rd_T32 l0 x9_1).f0), .int .i64 0]) ?_ 1 _ rfl; (with_reducible repeat (first | refine blk_drewN ?_ _ | refine blk_drew ?_ | refine blk_alloc ?_ _)); refine blk_put (cs := #[.int .i64 0, .int .i64 0]) ?_ 0 _ rfl; (with_reducible repeat (first | refine blk_drewN ?_ _ | refine blk_drew ?_ | refine blk_alloc ?_ _)); exact BK103.out⟩
                have n2_ : Aside0 (Below w.heap.size w ((w6.setCell ⟨gb103, 0, none⟩ (.int .i64 ((rd_T32 l0 x9_1).f0))).setCell ⟨gb103, 1, none⟩ (.int .i64 ((rd_T32 l0 x9_1).f1)))) := ⟨by repeat (first | (with_reducible first | exact HB.out | apply below_alloc | apply pw_below_drewN | apply below_drew1 | refine below_set ?_ GE103.out) | exact HB.out)⟩
                (try clear HO_3)
                (try clear BK103)
                (try clear HB)
                generalize ((w6.setCell ⟨gb103, 0, none⟩ (.int .i64 ((rd_T32 l0 x9_1).f0))).setCell ⟨gb103, 1, none⟩ (.int .i64 ((rd_T32 l0 x9_1).f1))) = w13 at n0_ n1_ n2_ ⊢
                have HO_3 := n0_
                have BK103 := n1_
                have HB := n2_
                clear n0_ n1_ n2_
                have n0_ := Aside0.mk (Kd.R_drew HO_3.out)
                have n1_ := Aside0.mk (blk_drew BK103.out)
                have n2_ := Aside0.mk (below_drew1 HB.out)
                clear HO_3
                clear BK103
                clear HB
                have HO_3 := n0_
                have BK103 := n1_
                have HB := n2_
                clear n0_ n1_ n2_
                have p104 : 0 ≤ ((ji10) : Int) := of_decide_eq_true (by first | (with_reducible assumption) | assumption)
                have q104 : (ji10) < (x3_1.length : Int) := of_decide_eq_true (by first | (with_reducible assumption) | assumption)
                obtain ⟨ad104, e104, hx104_0, hx104_1⟩ := at_T32 (Kd.R_reads' HO_3.out).2.2 (ji10) p104 q104
                cases e104
                replace p104 := eq_true p104
                replace q104 := eq_true q104
                refine start_ (n := 13) (S := fun w' => w'.cell? ⟨gb103, 0, none⟩ = some (.int .i64 ((rd_T32 l0 x9_1).f0)) ∧ w'.cell? ⟨gb103, 1, none⟩ = some (.int .i64 ((rd_T32 l0 x9_1).f1)) ∧ w'.cell? (ad104.add (((ji10)).toNat * 2)) = some (.int .i64 ((rd_T32 x3_1 (ji10)).f0)) ∧ w'.cell? ⟨(ad104.add (((ji10)).toNat * 2)).block, (ad104.add (((ji10)).toNat * 2)).off + 1, none⟩ = some (.int .i64 ((rd_T32 x3_1 (ji10)).f1))) (ds := []) #[false, false, false, false, false, false, false, false, false, false, false, false, false] (by kernel_rfl) rfl rfl ⟨(blk_cell BK103.out 0).trans rfl, (blk_cell BK103.out 1).trans rfl, hx104_0, hx104_1⟩ (fun hHeld => ?_); refine with_tabW span_joined.tab6 span_joined.bits6 (fun HT_ HW_ => ?_)
                generalize w13.drew = w14 at HO_3 BK103 HB hx104_0 hx104_1 hHeld ⊢
                refine pure_ (i := 0) (N := some 15) (v := ?_) (a' := ?_) #[true, false, false, false, false, false, false, false, false, false, false, false, false] rfl rfl (any_of HT_.out (by kernel_rfl)) (fun _ _ _ h => h) (Or.inl ⟨by rfl, ?_⟩) ?_ ?_
                rotate_left
                · intro w'
                  go_simp
                  with_reducible rfl
                rotate_left
                · simp only [Act.put, List.setIfInBounds_toArray, List.set_cons_zero, List.set_cons_succ, i64_w, i32_w]
                  rfl
                refine pure_ (i := 1) (N := some 16) (v := ?_) (a' := ?_) #[true, true, false, false, false, false, false, false, false, false, false, false, false] rfl rfl (any_of HT_.out (by kernel_rfl)) (fun _ _ _ h => h) (Or.inl ⟨by rfl, ?_⟩) ?_ ?_
                rotate_left
                · intro w'
                  go_simp
                  with_reducible rfl
                rotate_left
                · simp only [Act.put, List.setIfInBounds_toArray, List.set_cons_zero, List.set_cons_succ, i64_w, i32_w]
                  rfl
                refine pure_ (i := 2) (N := some 17) (v := ?_) (a' := ?_) #[true, true, true, false, false, false, false, false, false, false, false, false, false] rfl rfl (any_of HT_.out (by kernel_rfl)) (fun _ _ _ h => h) (Or.inl ⟨by rfl, ?_⟩) ?_ ?_
                rotate_left
                · intro w'
                  go_simp
                  with_reducible rfl
                rotate_left
                · simp only [Act.put, List.setIfInBounds_toArray, List.set_cons_zero, List.set_cons_succ, i64_w, i32_w]
                  rfl
                refine pure_ (i := 3) (N := some 18) (v := ?_) (a' := ?_) #[true, true, true, true, false, false, false, false, false, false, false, false, false] rfl rfl (any_of HT_.out (by kernel_rfl)) (fun _ _ _ h => h) (Or.inl ⟨by rfl, ?_⟩) ?_ ?_
                rotate_left
                · intro w'
                  go_simp
                  with_reducible rfl
                rotate_left
                · simp only [Act.put, List.setIfInBounds_toArray, List.set_cons_zero, List.set_cons_succ, i64_w, i32_w]
                  rfl
                refine pure_ (i := 5) (N := some 20) (v := ?_) (a' := ?_) #[true, true, true, true, false, true, false, false, false, false, false, false, false] rfl rfl (any_of HT_.out (by kernel_rfl)) (fun _ _ _ h => h) (Or.inl ⟨by rfl, ?_⟩) ?_ ?_
                rotate_left
                · intro w'
                  go_simp
                  with_reducible rfl
                rotate_left
                · simp only [Act.put, List.setIfInBounds_toArray, List.set_cons_zero, List.set_cons_succ, i64_w, i32_w]
                  rfl
                refine pure_ (i := 6) (N := some 21) (v := ?_) (a' := ?_) #[true, true, true, true, false, true, true, false, false, false, false, false, false] rfl rfl (any_of HT_.out (by kernel_rfl)) (fun _ _ _ h => h) (Or.inl ⟨by rfl, ?_⟩) ?_ ?_
                rotate_left
                · intro w'
                  go_simp
                  with_reducible rfl
                rotate_left
                · simp only [Act.put, List.setIfInBounds_toArray, List.set_cons_zero, List.set_cons_succ, i64_w, i32_w]
                  rfl
                refine pure_ (i := 7) (N := some 22) (v := ?_) (a' := ?_) #[true, true, true, true, false, true, true, true, false, false, false, false, false] rfl rfl (any_of HT_.out (by kernel_rfl)) (fun _ _ _ h => h) (Or.inl ⟨by rfl, ?_⟩) ?_ ?_
                rotate_left
                · intro w'
                  go_simp
                  with_reducible rfl
                rotate_left
                · simp only [Act.put, List.setIfInBounds_toArray, List.set_cons_zero, List.set_cons_succ, i64_w, i32_w]
                  rfl
                refine pure_ (i := 8) (N := some 23) (v := ?_) (a' := ?_) #[true, true, true, true, false, true, true, true, true, false, false, false, false] rfl rfl (any_of HT_.out (by kernel_rfl)) (fun _ _ _ h => h) (Or.inl ⟨by rfl, ?_⟩) ?_ ?_
                rotate_left
                · intro w'
                  go_simp
                  with_reducible rfl
                rotate_left
                · simp only [Act.put, List.setIfInBounds_toArray, List.set_cons_zero, List.set_cons_succ, i64_w, i32_w]
                  rfl
                refine pure_ (i := 9) (N := some 24) (v := ?_) (a' := ?_) #[true, true, true, true, false, true, true, true, true, true, false, false, false] rfl rfl (any_of HT_.out (by kernel_rfl)) (fun _ _ _ h => h) (Or.inl ⟨by rfl, ?_⟩) ?_ ?_
                rotate_left
                · intro w'
                  go_simp
                  with_reducible rfl
                rotate_left
                · simp only [Act.put, List.setIfInBounds_toArray, List.set_cons_zero, List.set_cons_succ, i64_w, i32_w]
                  rfl
                refine take_ (i := 4) (N := some 19) (v := ?_) (a' := ?_) #[true, true, true, true, true, true, true, true, true, true, false, false, false] rfl rfl (take_ofW HT_.out HW_.out (by kernel_rfl)) (fun _ _ _ h => h) (Or.inl ⟨by rfl, ?_⟩) hHeld ?_ ?_
                rotate_left
                · rintro w' ⟨s0, s1, s2, s3⟩
                  go_simp
                  with_reducible rfl
                rotate_left
                · simp only [Act.put, List.setIfInBounds_toArray, List.set_cons_zero, List.set_cons_succ, i64_w, i32_w]
                  rfl
                refine take_ (i := 10) (N := some 25) (v := ?_) (a' := ?_) #[true, true, true, true, true, true, true, true, true, true, true, false, false] rfl rfl (take_ofW HT_.out HW_.out (by kernel_rfl)) (fun _ _ _ h => h) (Or.inl ⟨by rfl, ?_⟩) hHeld ?_ ?_
                rotate_left
                · rintro w' ⟨s0, s1, s2, s3⟩
                  go_simp
                  with_reducible rfl
                rotate_left
                · simp only [Act.put, List.setIfInBounds_toArray, List.set_cons_zero, List.set_cons_succ, i64_w, i32_w]
                  rfl
                refine pure_ (i := 11) (N := some 26) (v := ?_) (a' := ?_) #[true, true, true, true, true, true, true, true, true, true, true, true, false] rfl rfl (any_of HT_.out (by kernel_rfl)) (fun _ _ _ h => h) (Or.inl ⟨by rfl, ?_⟩) ?_ ?_
                rotate_left
                · intro w'
                  go_simp
                  with_reducible rfl
                rotate_left
                · simp only [Act.put, List.setIfInBounds_toArray, List.set_cons_zero, List.set_cons_succ, i64_w, i32_w]
                  rfl
                refine pure_ (i := 12) (N := some 27) (v := ?_) (a' := ?_) #[true, true, true, true, true, true, true, true, true, true, true, true, true] rfl rfl (any_of HT_.out (by kernel_rfl)) (fun _ _ _ h => h) (Or.inl ⟨by rfl, ?_⟩) ?_ ?_
                rotate_left
                · intro w'
                  go_simp
                  with_reducible rfl
                rotate_left
                · simp only [Act.put, List.setIfInBounds_toArray, List.set_cons_zero, List.set_cons_succ, i64_w, i32_w]
                  rfl
                refine done_ (done_of HT_.out (by kernel_rfl)) ?_
                try go_wp2
                go_meet
                case rel => exact ⟨_, (decide (((rd_T32 l0 x9_1).f0) ≤ ((rd_T32 x3_1 (ji10)).f1))), (by first | rfl | (simp; done) | (simp only [← hji10] <;> (first | rfl | simp)) | (simp [*]; done)), H', ⟨by have := HK1.out; first | omega | exact Nat.le_refl _⟩, ⟨by (with_reducible repeat (first | apply Kd.R_alloc | apply Kd.R_drewN | apply Kd.R_drew)); exact HO_3.out⟩, ⟨by (with_reducible repeat (first | refine blk_drewN ?_ _ | refine blk_drew ?_ | refine blk_alloc ?_ _)); exact BK103.out⟩, ⟨by repeat (first | (with_reducible first | exact HB.out | apply below_alloc | apply pw_below_drewN | apply below_drew1 | refine below_set ?_ GE103.out) | exact HB.out)⟩⟩
              · rw [if_neg c12] at H
                exact absurd H (by simp)
            · rw [if_neg c11] at H
              exact absurd H (by simp)
          · rw [if_neg c9] at H
            have c9b0 : decide (0 < (x3_1.length : Int)) = false := decide_eq_false c9
            have c9b1 : decide (0 < x3_1.length) = false := decide_eq_false (by omega)
            clear c9
            (first | rw [c9b0] | (simp only [i64_w, i32_w]; rw [c9b0]) | skip)
            have H' := Aside0.mk H
            clear H
            try go_wp2
            have n0_ : Aside0 (Kd.R k32 32 ((w6.setCell ⟨gb103, 0, none⟩ (.int .i64 ((rd_T32 l0 x9_1).f0))).setCell ⟨gb103, 1, none⟩ (.int .i64 ((rd_T32 l0 x9_1).f1))) w.heap.size (fun k_ => k_ ≠ gb103) (.slice Ao8 x3_1.length co8) x3_1) := ⟨by (with_reducible repeat (first | apply Kd.R_alloc | apply Kd.R_drewN | apply Kd.R_drew)); exact Kd.R_mono (Kd.R_far (p := ⟨gb103, 1, none⟩) (Kd.R_far (p := ⟨gb103, 0, none⟩) (Kd.R_mono HO_3.out (fun k_ hk => (⟨hk, hk.2⟩ : _ ∧ k_ ≠ gb103))) (fun _ hk => hk.2) (.int .i64 ((rd_T32 l0 x9_1).f0))) (fun _ hk => hk.2) (.int .i64 ((rd_T32 l0 x9_1).f1))) (fun _ hk => hk.1.2)⟩
            have n1_ : Aside0 (((w6.setCell ⟨gb103, 0, none⟩ (.int .i64 ((rd_T32 l0 x9_1).f0))).setCell ⟨gb103, 1, none⟩ (.int .i64 ((rd_T32 l0 x9_1).f1))).heap[gb103]? = some (.cells #[.int .i64 ((rd_T32 l0 x9_1).f0), .int .i64 ((rd_T32 l0 x9_1).f1)] 32 (0, 0))) := ⟨by (with_reducible repeat (first | refine blk_drewN ?_ _ | refine blk_drew ?_ | refine blk_alloc ?_ _)); refine blk_put (cs := #[.int .i64 ((rd_T32 l0 x9_1).f0), .int .i64 0]) ?_ 1 _ rfl; (with_reducible repeat (first | refine blk_drewN ?_ _ | refine blk_drew ?_ | refine blk_alloc ?_ _)); refine blk_put (cs := #[.int .i64 0, .int .i64 0]) ?_ 0 _ rfl; (with_reducible repeat (first | refine blk_drewN ?_ _ | refine blk_drew ?_ | refine blk_alloc ?_ _)); exact BK103.out⟩
            have n2_ : Aside0 (Below w.heap.size w ((w6.setCell ⟨gb103, 0, none⟩ (.int .i64 ((rd_T32 l0 x9_1).f0))).setCell ⟨gb103, 1, none⟩ (.int .i64 ((rd_T32 l0 x9_1).f1)))) := ⟨by repeat (first | (with_reducible first | exact HB.out | apply below_alloc | apply pw_below_drewN | apply below_drew1 | refine below_set ?_ GE103.out) | exact HB.out)⟩
            (try clear HO_3)
            (try clear BK103)
            (try clear HB)
            generalize ((w6.setCell ⟨gb103, 0, none⟩ (.int .i64 ((rd_T32 l0 x9_1).f0))).setCell ⟨gb103, 1, none⟩ (.int .i64 ((rd_T32 l0 x9_1).f1))) = w15 at n0_ n1_ n2_ ⊢
            have HO_3 := n0_
            have BK103 := n1_
            have HB := n2_
            clear n0_ n1_ n2_
            have n0_ := Aside0.mk (Kd.R_drew HO_3.out)
            have n1_ := Aside0.mk (blk_drew BK103.out)
            have n2_ := Aside0.mk (below_drew1 HB.out)
            clear HO_3
            clear BK103
            clear HB
            have HO_3 := n0_
            have BK103 := n1_
            have HB := n2_
            clear n0_ n1_ n2_
            refine start_ (n := 13) (S := fun w' => True) (ds := []) #[false, false, false, false, false, false, false, false, false, false, false, false, false] (by kernel_rfl) rfl rfl trivial (fun hHeld => ?_); refine with_tabW span_joined.tab6 span_joined.bits6 (fun HT_ HW_ => ?_)
            generalize w15.drew = w16 at HO_3 BK103 HB hHeld ⊢
            refine pure_ (i := 0) (N := some 15) (v := ?_) (a' := ?_) #[true, false, false, false, false, false, false, false, false, false, false, false, false] rfl rfl (any_of HT_.out (by kernel_rfl)) (fun _ _ _ h => h) (Or.inl ⟨by rfl, ?_⟩) ?_ ?_
            rotate_left
            · intro w'
              go_simp
              with_reducible rfl
            rotate_left
            · simp only [Act.put, List.setIfInBounds_toArray, List.set_cons_zero, List.set_cons_succ, i64_w, i32_w]
              rfl
            refine pure_ (i := 1) (N := some 16) (v := ?_) (a' := ?_) #[true, true, false, false, false, false, false, false, false, false, false, false, false] rfl rfl (any_of HT_.out (by kernel_rfl)) (fun _ _ _ h => h) (Or.inl ⟨by rfl, ?_⟩) ?_ ?_
            rotate_left
            · intro w'
              go_simp
              with_reducible rfl
            rotate_left
            · simp only [Act.put, List.setIfInBounds_toArray, List.set_cons_zero, List.set_cons_succ, i64_w, i32_w]
              rfl
            refine pure_ (i := 2) (N := some 17) (v := ?_) (a' := ?_) #[true, true, true, false, false, false, false, false, false, false, false, false, false] rfl rfl (any_of HT_.out (by kernel_rfl)) (fun _ _ _ h => h) (Or.inl ⟨by rfl, ?_⟩) ?_ ?_
            rotate_left
            · intro w'
              go_simp
              with_reducible rfl
            rotate_left
            · simp only [Act.put, List.setIfInBounds_toArray, List.set_cons_zero, List.set_cons_succ, i64_w, i32_w]
              rfl
            refine pure_ (i := 3) (N := some 18) (v := undef) (a' := ?_) #[true, true, true, true, false, false, false, false, false, false, false, false, false] rfl rfl (any_of HT_.out (by kernel_rfl)) (fun _ _ _ h => h) (Or.inr ⟨by rfl, rfl⟩) ?_ ?_
            rotate_left
            · simp only [Act.put, List.setIfInBounds_toArray, List.set_cons_zero, List.set_cons_succ, i64_w, i32_w]
              rfl
            refine pure_ (i := 4) (N := some 19) (v := undef) (a' := ?_) #[true, true, true, true, true, false, false, false, false, false, false, false, false] rfl rfl (any_of HT_.out (by kernel_rfl)) (fun _ _ _ h => h) (Or.inr ⟨by rfl, rfl⟩) ?_ ?_
            rotate_left
            · simp only [Act.put, List.setIfInBounds_toArray, List.set_cons_zero, List.set_cons_succ, i64_w, i32_w]
              rfl
            refine pure_ (i := 5) (N := some 20) (v := undef) (a' := ?_) #[true, true, true, true, true, true, false, false, false, false, false, false, false] rfl rfl (any_of HT_.out (by kernel_rfl)) (fun _ _ _ h => h) (Or.inr ⟨by rfl, rfl⟩) ?_ ?_
            rotate_left
            · simp only [Act.put, List.setIfInBounds_toArray, List.set_cons_zero, List.set_cons_succ, i64_w, i32_w]
              rfl
            refine pure_ (i := 6) (N := some 21) (v := undef) (a' := ?_) #[true, true, true, true, true, true, true, false, false, false, false, false, false] rfl rfl (any_of HT_.out (by kernel_rfl)) (fun _ _ _ h => h) (Or.inr ⟨by rfl, rfl⟩) ?_ ?_
            rotate_left
            · simp only [Act.put, List.setIfInBounds_toArray, List.set_cons_zero, List.set_cons_succ, i64_w, i32_w]
              rfl
            refine pure_ (i := 7) (N := some 22) (v := undef) (a' := ?_) #[true, true, true, true, true, true, true, true, false, false, false, false, false] rfl rfl (any_of HT_.out (by kernel_rfl)) (fun _ _ _ h => h) (Or.inr ⟨by rfl, rfl⟩) ?_ ?_
            rotate_left
            · simp only [Act.put, List.setIfInBounds_toArray, List.set_cons_zero, List.set_cons_succ, i64_w, i32_w]
              rfl
            refine pure_ (i := 8) (N := some 23) (v := undef) (a' := ?_) #[true, true, true, true, true, true, true, true, true, false, false, false, false] rfl rfl (any_of HT_.out (by kernel_rfl)) (fun _ _ _ h => h) (Or.inr ⟨by rfl, rfl⟩) ?_ ?_
            rotate_left
            · simp only [Act.put, List.setIfInBounds_toArray, List.set_cons_zero, List.set_cons_succ, i64_w, i32_w]
              rfl
            refine pure_ (i := 9) (N := some 24) (v := undef) (a' := ?_) #[true, true, true, true, true, true, true, true, true, true, false, false, false] rfl rfl (any_of HT_.out (by kernel_rfl)) (fun _ _ _ h => h) (Or.inr ⟨by rfl, rfl⟩) ?_ ?_
            rotate_left
            · simp only [Act.put, List.setIfInBounds_toArray, List.set_cons_zero, List.set_cons_succ, i64_w, i32_w]
              rfl
            refine pure_ (i := 10) (N := some 25) (v := undef) (a' := ?_) #[true, true, true, true, true, true, true, true, true, true, true, false, false] rfl rfl (any_of HT_.out (by kernel_rfl)) (fun _ _ _ h => h) (Or.inr ⟨by rfl, rfl⟩) ?_ ?_
            rotate_left
            · simp only [Act.put, List.setIfInBounds_toArray, List.set_cons_zero, List.set_cons_succ, i64_w, i32_w]
              rfl
            refine pure_ (i := 11) (N := some 26) (v := undef) (a' := ?_) #[true, true, true, true, true, true, true, true, true, true, true, true, false] rfl rfl (any_of HT_.out (by kernel_rfl)) (fun _ _ _ h => h) (Or.inr ⟨by rfl, rfl⟩) ?_ ?_
            rotate_left
            · simp only [Act.put, List.setIfInBounds_toArray, List.set_cons_zero, List.set_cons_succ, i64_w, i32_w]
              rfl
            refine pure_ (i := 12) (N := some 27) (v := ?_) (a' := ?_) #[true, true, true, true, true, true, true, true, true, true, true, true, true] rfl rfl (any_of HT_.out (by kernel_rfl)) (fun _ _ _ h => h) (Or.inl ⟨by rfl, ?_⟩) ?_ ?_
            rotate_left
            · intro w'
              go_simp
              with_reducible rfl
            rotate_left
            · simp only [Act.put, List.setIfInBounds_toArray, List.set_cons_zero, List.set_cons_succ, i64_w, i32_w]
              rfl
            refine done_ (done_of HT_.out (by kernel_rfl)) ?_
            try go_wp2
            go_meet
            case rel => exact ⟨_, (false), (by first | rfl | (simp; done) | (simp [*]; done)), H', ⟨by have := HK1.out; first | omega | exact Nat.le_refl _⟩, ⟨by (with_reducible repeat (first | apply Kd.R_alloc | apply Kd.R_drewN | apply Kd.R_drew)); exact HO_3.out⟩, ⟨by (with_reducible repeat (first | refine blk_drewN ?_ _ | refine blk_drew ?_ | refine blk_alloc ?_ _)); exact BK103.out⟩, ⟨by repeat (first | (with_reducible first | exact HB.out | apply below_alloc | apply pw_below_drewN | apply below_drew1 | refine below_set ?_ GE103.out) | exact HB.out)⟩⟩
         case rest =>
          clear HC5
          try clear c1
          try clear p1
          try clear q1
          try clear hx1
          try clear c2
          try clear c2b0
          try clear p2
          try clear c3
          try clear c3b0
          try clear c4
          try clear c4b0
          try clear c6
          try clear p6
          try clear c9
          try clear c9b0
          try clear c9b1
          try clear p10
          try clear q10
          try clear hx10
          try clear c11
          try clear c11b0
          try clear c12
          try clear c12b0
          try clear hcz7_0
          try clear hcz7_1
          try clear hfz7_0
          try clear hfz7_1
          try clear hx102_0
          try clear hx102_1
          try clear hx104_0
          try clear hx104_1
          try clear p102
          try clear p104
          try clear q102
          try clear q104
          obtain ⟨kq, x27_4, rfl, HA, HJ4, HO_3, BK103, HB⟩ := hcut
          cases kq with
          | zero => exact absurd HA.out (by simp [span_joined.j1])
          | succ kj4 =>
           have H := HA.out
           clear HA
           simp only [span_joined.j1] at H
           by_cases c17 : x27_4 = true
           · subst c17
             have H1 : (if 0 ≤ (wrap64 ((x3_1.length : Int) - 1)) then (if (wrap64 ((x3_1.length : Int) - 1)) < (x3_1.length : Int) then (span_joined.l0 kj4 (x3_1.set ((wrap64 ((x3_1.length : Int) - 1)) : Int).toNat (⟨(rd_T32 x3_1 (wrap64 ((x3_1.length : Int) - 1))).f0, mx ((rd_T32 x3_1 (wrap64 ((x3_1.length : Int) - 1))).f1) ((rd_T32 l0 x9_1).f1)⟩ : S32)) l0 (l0.length : Int) (wrap64 (x9_1 + 1))) else (none)) else (none)) = some r := by rw [if_pos rfl] at H; exact H
             clear H
             have H := H1
             clear H1
             obtain ⟨ji18, hji18⟩ : ∃ j_ : Int, (wrap64 ((x3_1.length : Int) - 1)) = j_ := ⟨_, rfl⟩
             replace H : (if 0 ≤ (ji18) then (if (ji18) < (x3_1.length : Int) then (span_joined.l0 kj4 (x3_1.set ((ji18) : Int).toNat (⟨(rd_T32 x3_1 (ji18)).f0, mx ((rd_T32 x3_1 (ji18)).f1) ((rd_T32 l0 x9_1).f1)⟩ : S32)) l0 (l0.length : Int) (wrap64 (x9_1 + 1))) else (none)) else (none)) = some r := by first | (rw [hji18] at H; exact H) | (simp only [hji18] at H ⊢; exact H)
             have hji18w : (IntKind.i64.wrap ((x3_1.length : Int) - 1)) = ji18 := (i64_w _).trans hji18
             by_cases c19 : 0 ≤ (ji18)
             · rw [if_pos c19] at H
               have c19b0 : decide (0 ≤ (ji18)) = true := decide_eq_true c19
               clear c19
               by_cases c20 : (ji18) < (x3_1.length : Int)
               · rw [if_pos c20] at H
                 have c20b0 : decide ((ji18) < (x3_1.length : Int)) = true := decide_eq_true c20
                 clear c20
                 obtain ⟨ji21, hji21⟩ : ∃ j_ : Int, (mx ((rd_T32 x3_1 (ji18)).f1) ((rd_T32 l0 x9_1).f1)) = j_ := ⟨_, rfl⟩
                 replace H : (span_joined.l0 kj4 (x3_1.set ((ji18) : Int).toNat (⟨(rd_T32 x3_1 (ji18)).f0, ji21⟩ : S32)) l0 (l0.length : Int) (wrap64 (x9_1 + 1))) = some r := by first | (rw [hji21] at H; exact H) | (simp only [hji21] at H ⊢; exact H)
                 have hji21_ : (if ((rd_T32 x3_1 (ji18)).f1) < ((rd_T32 l0 x9_1).f1) then ((rd_T32 l0 x9_1).f1) else ((rd_T32 x3_1 (ji18)).f1)) = ji21 := hji21
                 obtain ⟨y106, hy106⟩ : ∃ y_ : List (S32), y_ = (x3_1.set ((ji18) : Int).toNat (⟨(rd_T32 x3_1 (ji18)).f0, ji21⟩ : S32)) := ⟨_, rfl⟩
                 replace H : (span_joined.l0 kj4 y106 l0 (l0.length : Int) (wrap64 (x9_1 + 1))) = some r := by first | (rw [hy106]; with_reducible exact H) | (have H2_ := (Option.bind_some _ _).symm.trans H; rw [hy106]; with_reducible exact H2_) | (have H2_ := (Option.bind_some _ _).symm.trans H; with_reducible exact H2_) | with_reducible exact H | (rw [hy106]; exact H) | exact H
                 have Ny106 := Aside0.mk hy106
                 clear hy106
                 have H' := Aside0.mk H
                 clear H
                 try go_wp2
                 have n0_ := Aside0.mk (Kd.R_drew HO_3.out)
                 have n1_ := Aside0.mk (blk_drew BK103.out)
                 have n2_ := Aside0.mk (below_drew1 HB.out)
                 clear HO_3
                 clear BK103
                 clear HB
                 have HO_3 := n0_
                 have BK103 := n1_
                 have HB := n2_
                 clear n0_ n1_ n2_
                 have p105 : 0 ≤ ((ji18) : Int) := of_decide_eq_true (by first | (with_reducible assumption) | assumption)
                 have q105 : (ji18) < (x3_1.length : Int) := of_decide_eq_true (by first | (with_reducible assumption) | assumption)
                 obtain ⟨ad105, e105, hx105_0, hx105_1⟩ := at_T32 (Kd.R_reads' HO_3.out).2.2 (ji18) p105 q105
                 cases e105
                 replace p105 := eq_true p105
                 replace q105 := eq_true q105
                 have p22 : 0 ≤ ((ji18) : Int) := of_decide_eq_true (by first | (with_reducible assumption) | assumption)
                 have q22 : ((ji18) : Int) < ((x3_1.length : Int) : Int) := of_decide_eq_true (by first | (with_reducible assumption) | assumption)
                 obtain ⟨go22, co22, eo22, gb22, gl22, cl22, HG22⟩ := Kd.R_form HO_3.out (by omega)
                 (first | cases eo22 | (injection eo22 with ea_ en_ ec_; (first | subst ea_ | (injection ea_ with ea_; subst ea_)); subst ec_; clear en_))
                 have GB22 := Aside0.mk gb22
                 have GG22 := Aside0.mk HG22
                 clear gb22 gl22 HG22
                 (first | simp only [add_plain] at hx105_0 | skip)
                 (first | simp only [add_plain] at hx105_1 | skip)
                 obtain ⟨ce22, hcl22, hM22, hcc22, hfr22⟩ := Kd.R_elem HO_3.out z32 ((ji18) : Int) p22 q22
                 obtain rfl := k32_openM hM22
                 have hx22_0 : World.cell? _ ⟨go22, ((ji18) : Int).toNat * 2, none⟩ = some (.int .i64 ((rd_T32 x3_1 (ji18)).f0)) := hcc22 0 _ rfl
                 have hx22_1 : World.cell? _ ⟨go22, ((ji18) : Int).toNat * 2 + 1, none⟩ = some (.int .i64 ((rd_T32 x3_1 (ji18)).f1)) := hcc22 1 _ rfl
                 have hf22_0 : World.frozen? _ ⟨go22, ((ji18) : Int).toNat * 2, none⟩ = false := hfr22 0
                 have hf22_1 : World.frozen? _ ⟨go22, ((ji18) : Int).toNat * 2 + 1, none⟩ = false := hfr22 1
                 clear hcl22 hcc22 hfr22 hM22
                 replace p22 := eq_true p22
                 replace q22 := eq_true q22
                 obtain ⟨ce24, hcl24, hM24, hcc24, hfr24⟩ := Kd.R_elem HO_3.out z32 ((ji18) : Int) (of_decide_eq_true (by first | (with_reducible assumption) | assumption)) (by have h_ : ((ji18) : Int) < ((x3_1.length : Int) : Int) := of_decide_eq_true (by first | (with_reducible assumption) | assumption); first | exact h_ | (have e_ := (Kd.R_reads' HO_3.out).1; omega) | simpa using h_)
                 obtain rfl := k32_openM hM24
                 have HP24 := (Kd.R_seg HO_3.out ((ji18) : Int) (of_decide_eq_true (by first | (with_reducible assumption) | assumption)) (by have h_ : ((ji18) : Int) < ((x3_1.length : Int) : Int) := of_decide_eq_true (by first | (with_reducible assumption) | assumption); first | exact h_ | (have e_ := (Kd.R_reads' HO_3.out).1; omega) | simpa using h_) (seg := [.int .i64 ji21]) (j := 1) hcl24 hcc24 (show 2 ≤ 2 from by decide) (x' := (⟨(rd_T32 x3_1 (ji18)).f0, ji21⟩ : S32)) (k32_mkM _ _ _ (⟨(rd_T32 x3_1 (ji18)).f0, ji21⟩ : S32) ) (fun _ hk => hk)).1
                 rw [← Ny106.out] at HP24
                 have HQ24 := Aside0.mk HP24
                 clear hcl24 hcc24 hfr24 hM24 HP24
                 refine start_ (n := 15) (S := fun w' => w'.cell? ⟨gb103, 0, none⟩ = some (.int .i64 ((rd_T32 l0 x9_1).f0)) ∧ w'.cell? ⟨gb103, 1, none⟩ = some (.int .i64 ((rd_T32 l0 x9_1).f1)) ∧ w'.cell? ⟨go22, ((ji18)).toNat * 2, none⟩ = some (.int .i64 ((rd_T32 x3_1 (ji18)).f0)) ∧ w'.cell? ⟨go22, ((ji18)).toNat * 2 + 1, none⟩ = some (.int .i64 ((rd_T32 x3_1 (ji18)).f1))) (ds := [14]) #[false, false, false, false, false, false, false, false, false, false, false, false, false, false, false] (by kernel_rfl) rfl rfl ⟨(blk_cell BK103.out 0).trans rfl, (blk_cell BK103.out 1).trans rfl, hx105_0, hx105_1⟩ (fun hHeld => ?_); refine with_tabW span_joined.tab7 span_joined.bits7 (fun HT_ HW_ => ?_)
                 generalize wc.drew = w23 at HO_3 BK103 HB GG22 HQ24 hf22_0 hf22_1 hx105_0 hx105_1 hx22_0 hx22_1 hHeld ⊢
                 refine pure_ (i := 0) (N := some 28) (v := ?_) (a' := ?_) #[true, false, false, false, false, false, false, false, false, false, false, false, false, false, false] rfl rfl (any_of HT_.out (by kernel_rfl)) (fun _ _ _ h => h) (Or.inl ⟨by rfl, ?_⟩) ?_ ?_
                 rotate_left
                 · intro w'
                   go_simp
                   with_reducible rfl
                 rotate_left
                 · simp only [Act.put, List.setIfInBounds_toArray, List.set_cons_zero, List.set_cons_succ, i64_w, i32_w]
                   rfl
                 refine pure_ (i := 1) (N := some 29) (v := ?_) (a' := ?_) #[true, true, false, false, false, false, false, false, false, false, false, false, false, false, false] rfl rfl (any_of HT_.out (by kernel_rfl)) (fun _ _ _ h => h) (Or.inl ⟨by rfl, ?_⟩) ?_ ?_
                 rotate_left
                 · intro w'
                   go_simp
                   with_reducible rfl
                 rotate_left
                 · simp only [Act.put, List.setIfInBounds_toArray, List.set_cons_zero, List.set_cons_succ, i64_w, i32_w]
                   rfl
                 refine pure_ (i := 2) (N := some 30) (v := ?_) (a' := ?_) #[true, true, true, false, false, false, false, false, false, false, false, false, false, false, false] rfl rfl (any_of HT_.out (by kernel_rfl)) (fun _ _ _ h => h) (Or.inl ⟨by rfl, ?_⟩) ?_ ?_
                 rotate_left
                 · intro w'
                   go_simp
                   with_reducible rfl
                 rotate_left
                 · simp only [Act.put, List.setIfInBounds_toArray, List.set_cons_zero, List.set_cons_succ, i64_w, i32_w]
                   rfl
                 refine pure_ (i := 3) (N := some 31) (v := ?_) (a' := ?_) #[true, true, true, true, false, false, false, false, false, false, false, false, false, false, false] rfl rfl (any_of HT_.out (by kernel_rfl)) (fun _ _ _ h => h) (Or.inl ⟨by rfl, ?_⟩) ?_ ?_
                 rotate_left
                 · intro w'
                   go_simp
                   with_reducible rfl
                 rotate_left
                 · simp only [Act.put, List.setIfInBounds_toArray, List.set_cons_zero, List.set_cons_succ, i64_w, i32_w]
                   rfl
                 refine pure_ (i := 4) (N := some 32) (v := ?_) (a' := ?_) #[true, true, true, true, true, false, false, false, false, false, false, false, false, false, false] rfl rfl (any_of HT_.out (by kernel_rfl)) (fun _ _ _ h => h) (Or.inl ⟨by rfl, ?_⟩) ?_ ?_
                 rotate_left
                 · intro w'
                   go_simp
                   with_reducible rfl
                 rotate_left
                 · simp only [Act.put, List.setIfInBounds_toArray, List.set_cons_zero, List.set_cons_succ, i64_w, i32_w]
                   rfl
                 refine pure_ (i := 5) (N := some 33) (v := ?_) (a' := ?_) #[true, true, true, true, true, true, false, false, false, false, false, false, false, false, false] rfl rfl (any_of HT_.out (by kernel_rfl)) (fun _ _ _ h => h) (Or.inl ⟨by rfl, ?_⟩) ?_ ?_
                 rotate_left
                 · intro w'
                   go_simp
                   with_reducible rfl
                 rotate_left
                 · simp only [Act.put, List.setIfInBounds_toArray, List.set_cons_zero, List.set_cons_succ, i64_w, i32_w]
                   rfl
                 refine pure_ (i := 6) (N := some 34) (v := ?_) (a' := ?_) #[true, true, true, true, true, true, true, false, false, false, false, false, false, false, false] rfl rfl (any_of HT_.out (by kernel_rfl)) (fun _ _ _ h => h) (Or.inl ⟨by rfl, ?_⟩) ?_ ?_
                 rotate_left
                 · intro w'
                   go_simp
                   with_reducible rfl
                 rotate_left
                 · simp only [Act.put, List.setIfInBounds_toArray, List.set_cons_zero, List.set_cons_succ, i64_w, i32_w]
                   rfl
                 refine pure_ (i := 7) (N := some 35) (v := ?_) (a' := ?_) #[true, true, true, true, true, true, true, true, false, false, false, false, false, false, false] rfl rfl (any_of HT_.out (by kernel_rfl)) (fun _ _ _ h => h) (Or.inl ⟨by rfl, ?_⟩) ?_ ?_
                 rotate_left
                 · intro w'
                   go_simp
                   with_reducible rfl
                 rotate_left
                 · simp only [Act.put, List.setIfInBounds_toArray, List.set_cons_zero, List.set_cons_succ, i64_w, i32_w]
                   rfl
                 refine pure_ (i := 9) (N := some 37) (v := ?_) (a' := ?_) #[true, true, true, true, true, true, true, true, false, true, false, false, false, false, false] rfl rfl (any_of HT_.out (by kernel_rfl)) (fun _ _ _ h => h) (Or.inl ⟨by rfl, ?_⟩) ?_ ?_
                 rotate_left
                 · intro w'
                   go_simp
                   with_reducible rfl
                 rotate_left
                 · simp only [Act.put, List.setIfInBounds_toArray, List.set_cons_zero, List.set_cons_succ, i64_w, i32_w]
                   rfl
                 refine take_ (i := 8) (N := some 36) (v := ?_) (a' := ?_) #[true, true, true, true, true, true, true, true, true, true, false, false, false, false, false] rfl rfl (take_ofW HT_.out HW_.out (by kernel_rfl)) (fun _ _ _ h => h) (Or.inl ⟨by rfl, ?_⟩) hHeld ?_ ?_
                 rotate_left
                 · rintro w' ⟨s0, s1, s2, s3⟩
                   go_simp
                   with_reducible rfl
                 rotate_left
                 · simp only [Act.put, List.setIfInBounds_toArray, List.set_cons_zero, List.set_cons_succ, i64_w, i32_w]
                   rfl
                 refine take_ (i := 10) (N := some 38) (v := ?_) (a' := ?_) #[true, true, true, true, true, true, true, true, true, true, true, false, false, false, false] rfl rfl (take_ofW HT_.out HW_.out (by kernel_rfl)) (fun _ _ _ h => h) (Or.inl ⟨by rfl, ?_⟩) hHeld ?_ ?_
                 rotate_left
                 · rintro w' ⟨s0, s1, s2, s3⟩
                   go_simp
                   with_reducible rfl
                 rotate_left
                 · simp only [Act.put, List.setIfInBounds_toArray, List.set_cons_zero, List.set_cons_succ, i64_w, i32_w]
                   rfl
                 refine pure_ (i := 11) (N := some 39) (v := ?_) (a' := ?_) #[true, true, true, true, true, true, true, true, true, true, true, true, false, false, false] rfl rfl (any_of HT_.out (by kernel_rfl)) (fun _ _ _ h => h) (Or.inl ⟨by rfl, ?_⟩) ?_ ?_
                 rotate_left
                 · intro w'
                   go_simp
                   with_reducible rfl
                 rotate_left
                 · simp only [Act.put, List.setIfInBounds_toArray, List.set_cons_zero, List.set_cons_succ, i64_w, i32_w]
                   rfl
                 refine pure_ (i := 12) (N := some 40) (v := ?_) (a' := ?_) #[true, true, true, true, true, true, true, true, true, true, true, true, true, false, false] rfl rfl (any_of HT_.out (by kernel_rfl)) (fun _ _ _ h => h) (Or.inl ⟨by rfl, ?_⟩) ?_ ?_
                 rotate_left
                 · intro w'
                   go_simp
                   with_reducible rfl
                 rotate_left
                 · simp only [Act.put, List.setIfInBounds_toArray, List.set_cons_zero, List.set_cons_succ, i64_w, i32_w]
                   rfl
                 refine pure_ (i := 13) (N := some 41) (v := ?_) (a' := ?_) #[true, true, true, true, true, true, true, true, true, true, true, true, true, true, false] rfl rfl (any_of HT_.out (by kernel_rfl)) (fun _ _ _ h => h) (Or.inl ⟨by rfl, ?_⟩) ?_ ?_
                 rotate_left
                 · intro w'
                   go_simp
                   with_reducible rfl
                 rotate_left
                 · simp only [Act.put, List.setIfInBounds_toArray, List.set_cons_zero, List.set_cons_succ, i64_w, i32_w]
                   rfl
                 refine last_ (i := 14) (N := none) #[true, true, true, true, true, true, true, true, true, true, true, true, true, true, true] rfl rfl (one_of HT_.out (by kernel_rfl)) (by decide) (fun K hK => ?_)
                 refine skip_ (w1 := ?_) (by rfl) rfl ?_ ?_
                 rotate_left
                 · go_simp
                   rfl
                 refine hK.out _ _ ?_
                 clear hK K
                 refine done_ (done_of HT_.out (by kernel_rfl)) ?_
                 try go_wp2
                 go_roundg kj4
                 case measure => have := HK1.out; have := HJ4.out; omega
                 case rel => exact ⟨(y106), (wrap64 (x9_1 + 1)), (by first | rfl | (simp; done) | (simp [*]; done)), H', ⟨by have := HK1.out; have := HJ4.out; omega⟩, ⟨by (with_reducible repeat (first | apply Kd.R_alloc | apply Kd.R_drewN | apply Kd.R_drew)); exact Kd.R_mono HQ24.out (fun _ hk => trivial)⟩, ⟨by repeat (first | (with_reducible first | exact HB.out | apply below_alloc | apply pw_below_drewN | apply below_drew1 | refine below_set ?_ GB22.out | refine below_set ?_ GE103.out) | exact HB.out)⟩⟩
               · rw [if_neg c20] at H
                 exact absurd H (by simp)
             · rw [if_neg c19] at H
               exact absurd H (by simp)
           · replace c17 := Bool.eq_false_iff.mpr c17
             subst c17
             have H1 : (if x3_1.length < 8796093022208 then (span_joined.l0 kj4 (x3_1 ++ [(⟨((rd_T32 l0 x9_1).f0), ((rd_T32 l0 x9_1).f1)⟩ : S32)]) l0 (l0.length : Int) (wrap64 (x9_1 + 1))) else (none)) = some r := by rw [if_neg (show ¬ (false = true) by decide)] at H; exact H
             clear H
             have H := H1
             clear H1
             by_cases c25 : x3_1.length < 8796093022208
             · rw [if_pos c25] at H
               have LMc25 := Aside0.mk c25
               clear c25
               obtain ⟨y107, hy107⟩ : ∃ y_ : List (S32), y_ = (x3_1 ++ [(⟨((rd_T32 l0 x9_1).f0), ((rd_T32 l0 x9_1).f1)⟩ : S32)]) := ⟨_, rfl⟩
               replace H : (span_joined.l0 kj4 y107 l0 (l0.length : Int) (wrap64 (x9_1 + 1))) = some r := by first | (rw [hy107]; with_reducible exact H) | (have H2_ := (Option.bind_some _ _).symm.trans H; rw [hy107]; with_reducible exact H2_) | (have H2_ := (Option.bind_some _ _).symm.trans H; with_reducible exact H2_) | with_reducible exact H | (rw [hy107]; exact H) | exact H
               have Ny107 := Aside0.mk hy107
               clear hy107
               have H' := Aside0.mk H
               clear H
               have hcz26_0 : wc.cell? ⟨gb103, 0, none⟩ = some (.int .i64 ((rd_T32 l0 x9_1).f0)) := (blk_cell BK103.out 0).trans rfl
               have hcz26_1 : wc.cell? ⟨gb103, 1, none⟩ = some (.int .i64 ((rd_T32 l0 x9_1).f1)) := (blk_cell BK103.out 1).trans rfl
               have hfz26_0 := blk_frozen BK103.out 0
               have hfz26_1 := blk_frozen BK103.out 1
               go_wp2_with (first | ((with_reducible refine gate_builtin (b := .append) (xs := #[.tmp 42, .tmp 44]) rfl ?_); at_builtin; refine Kd.R_append k32 (w0 := w) w.heap.size rfl (.tmp 42) (.tmp 44) 22 32 (.agg #[(.int .i64 0), (.int .i64 0)]) 16 rfl Try.underlying22 info32 rfl (by decide) (by omega) (.slice Ao8 x3_1.length co8) x3_1 (⟨((rd_T32 l0 x9_1).f0), ((rd_T32 l0 x9_1).f1)⟩ : S32) [.int .i64 ((rd_T32 l0 x9_1).f0), .int .i64 ((rd_T32 l0 x9_1).f1)] (fun k_ => k_ ≠ gb103) (fun _ => False) rfl rfl ?aP (fun _ hk => hk.elim) ?aF ?aO ?aB ?aS ?aL ?_; (case aP => exact k32_mkM _ _ _ (⟨((rd_T32 l0 x9_1).f0), ((rd_T32 l0 x9_1).f1)⟩ : S32)); (case aB => exact (by repeat (first | (with_reducible first | exact HB.out | apply below_alloc | apply pw_below_drewN | apply below_drew1 | refine below_set ?_ GE103.out) | exact HB.out))); (case aF => exact (fun k_ hk => Kd.freshB (g := gb103) (o := .cells #[.int .i64 ((rd_T32 l0 x9_1).f0), .int .i64 ((rd_T32 l0 x9_1).f1)] 32 (0, 0)) (by (with_reducible repeat (first | refine blk_drewN ?_ _ | refine blk_drew ?_ | refine blk_alloc ?_ _)); exact BK103.out) k_ hk)); (case aO => exact (by (with_reducible repeat (first | apply Kd.R_alloc | apply Kd.R_drewN | apply Kd.R_drew)); exact HO_3.out)); (case aS => exact (below_size (by repeat (first | (with_reducible first | exact HB.out | apply below_alloc | apply pw_below_drewN | apply below_drew1 | refine below_set ?_ GE103.out) | exact HB.out)))); (case aL => have := LMc25.out; omega); intro v108 w27 ho hb hg hat; rw [← Ny107.out] at ho; have n0_ := Aside0.mk (blk_grown (g := gb103) (o := .cells #[.int .i64 ((rd_T32 l0 x9_1).f0), .int .i64 ((rd_T32 l0 x9_1).f1)] 32 (0, 0)) (by (with_reducible repeat (first | refine blk_drewN ?_ _ | refine blk_drew ?_ | refine blk_alloc ?_ _)); exact BK103.out) hg (Kd.R_away HO_3.out (fun _ hk => hk))); have n1_ := Aside0.mk (hb); have n2_ := Aside0.mk (ho); clear BK103; clear HB; clear HO_3; have BK103 := n0_; have HB := n1_; have HO109 := n2_; clear n0_ n1_ n2_; clear ho hb hg hat))
               go_roundg kj4
               case measure => have := HK1.out; have := HJ4.out; omega
               case rel => exact ⟨(y107), (wrap64 (x9_1 + 1)), (by first | rfl | (simp; done) | (simp [*]; done)), H', ⟨by have := HK1.out; have := HJ4.out; omega⟩, ⟨by (with_reducible repeat (first | apply Kd.R_alloc | apply Kd.R_drewN | apply Kd.R_drew)); exact Kd.R_mono HO109.out (fun _ hk => trivial)⟩, ⟨by repeat (first | (with_reducible first | exact HB.out | apply below_alloc | apply pw_below_drewN | apply below_drew1 | refine below_set ?_ GE103.out) | exact HB.out)⟩⟩
             · rw [if_neg c25] at H
               exact absurd H (by simp)
       · rw [if_neg c4] at H
         exact absurd H (by simp)
     · rw [if_neg c3] at H
       exact absurd H (by simp)
   · rw [if_neg c2] at H
     have c2b0 : decide (x9_1 < (l0.length : Int)) = false := decide_eq_false c2
     clear c2
     obtain rfl := Option.some.inj H
     go_wp2
     go_ret
     exact ⟨_, by first | rfl | (simp [errW_none, errW_some] <;> rfl) | (simp [*, errW_none, errW_some] <;> rfl), by (with_reducible repeat (first | apply Kd.R_alloc | apply Kd.R_drewN | apply Kd.R_drew)); exact HO_3.out, by repeat (first | (with_reducible first | exact HB.out | apply below_alloc | apply pw_below_drewN | apply below_drew1) | exact HB.out)⟩
end Go.Proofs.Ytningpmoojnomaa.Pr
end
section
namespace Go.Proofs.Ytningpmoojnomaa.Pr
open Go.RowKit Go.Proofs.YtningpmoojnomaaW.PrintWords Go.Proofs.YtningpmoojnomaaW.PrintLast Go.Proofs.YtningpmoojnomaaW.PrintMore
attribute [local go_sem] max2_int min2_int max_two min_two max_three min_three max_four min_four   -- for this text's walks alone
set_option linter.unusedVariables false
set_option linter.unusedSimpArgs false
def span_valid.f (a0_0 : Int) (a0_1 : Int) : Option (Bool) := if a0_0 ≥ (-1099511627776) then (if a0_0 < a0_1 then (some (decide (a0_1 ≤ 1099511627776))) else (some false)) else (some false)
set_option maxHeartbeats 8000000 in
set_option maxRecDepth 100000 in
theorem span_valid.calls (a0_0 : Int) (a0_1 : Int) (r : Bool) (w : World) (h : span_valid.f a0_0 a0_1 = some r) :
 Calls Try.prog 70 #[.agg #[.int .i64 a0_0, .int .i64 a0_1]] w fun e w' => e = .returned (.bool r) ∧ Below w.heap.size w w' := by
 have hu32 := Try.underlying32
 have HB := Aside0.mk (Below.refl w.heap.size w)
 have H : (if a0_0 ≥ (-1099511627776) then (if a0_0 < a0_1 then (some (decide (a0_1 ≤ 1099511627776))) else (some false)) else (some false)) = some r := h
 clear h
 by_cases c2 : a0_0 ≥ (-1099511627776)
 · rw [if_pos c2] at H
   have c2b0 : decide ((-1099511627776) ≤ a0_0) = true := decide_eq_true c2
   clear c2
   by_cases c3 : a0_0 < a0_1
   · rw [if_pos c3] at H
     have c3b0 : decide (a0_0 < a0_1) = true := decide_eq_true c3
     clear c3
     obtain rfl := Option.some.inj H
     go_enter Try.func70, Try.ntmps70
     go_wp2_with (first | ((with_reducible refine gate_dst (N := 1) rfl ?_); refine box_event ?hg (N := 1) ?hd (cs := #[.int .i64 a0_0, .int .i64 a0_1]) (t := 32) ?hr ?_; (case hd => rfl); (case hg => rfl); (case hr => first | (go_simp; done) | (go_simp; rfl)); intro gb101 hg w4 hbox hb; have n0_ := Aside0.mk (below_step (by repeat (first | (with_reducible first | exact HB.out | apply below_alloc | apply pw_below_drewN | apply below_drew1) | exact HB.out)) hb); have n1_ := Aside0.mk (hbox); have n2_ := Aside0.mk ((by rw [hg]; exact (below_size (by repeat (first | (with_reducible first | exact HB.out | apply below_alloc | apply pw_below_drewN | apply below_drew1) | exact HB.out))) : w.heap.size ≤ gb101)); have n3_ := Aside0.mk ((by rw [hg]; exact (below_size (by repeat (first | (with_reducible first | exact HB.out | apply below_alloc | apply pw_below_drewN | apply below_drew1) | exact HB.out))) : w.heap.size ≤ gb101)); clear HB; have HB := n0_; have BK101 := n1_; have GW101 := n2_; have GE101 := n3_; clear n0_ n1_ n2_ n3_; clear hb hbox hg; have hcz5_0 : w4.cell? ⟨gb101, 0, none⟩ = some (.int .i64 a0_0) := (blk_cell BK101.out 0).trans rfl; have hcz5_1 : w4.cell? ⟨gb101, 1, none⟩ = some (.int .i64 a0_1) := (blk_cell BK101.out 1).trans rfl; have hfz5_0 := blk_frozen BK101.out 0; have hfz5_1 := blk_frozen BK101.out 1))
     go_ret
     exact ⟨by first | rfl | (simp [errW_none, errW_some] <;> rfl) | (simp [*, errW_none, errW_some] <;> rfl), by repeat (first | (with_reducible first | exact HB.out | apply below_alloc | apply pw_below_drewN | apply below_drew1 | refine below_set ?_ GE101.out) | exact HB.out)⟩
   · rw [if_neg c3] at H
     have c3b0 : decide (a0_0 < a0_1) = false := decide_eq_false c3
     clear c3
     obtain rfl := Option.some.inj H
     go_enter Try.func70, Try.ntmps70
     go_wp2_with (first | ((with_reducible refine gate_dst (N := 1) rfl ?_); refine box_event ?hg (N := 1) ?hd (cs := #[.int .i64 a0_0, .int .i64 a0_1]) (t := 32) ?hr ?_; (case hd => rfl); (case hg => rfl); (case hr => first | (go_simp; done) | (go_simp; rfl)); intro gb101 hg w6 hbox hb; have n0_ := Aside0.mk (below_step (by repeat (first | (with_reducible first | exact HB.out | apply below_alloc | apply pw_below_drewN | apply below_drew1) | exact HB.out)) hb); have n1_ := Aside0.mk (hbox); have n2_ := Aside0.mk ((by rw [hg]; exact (below_size (by repeat (first | (with_reducible first | exact HB.out | apply below_alloc | apply pw_below_drewN | apply below_drew1) | exact HB.out))) : w.heap.size ≤ gb101)); have n3_ := Aside0.mk ((by rw [hg]; exact (below_size (by repeat (first | (with_reducible first | exact HB.out | apply below_alloc | apply pw_below_drewN | apply below_drew1) | exact HB.out))) : w.heap.size ≤ gb101)); clear HB; have HB := n0_; have BK101 := n1_; have GW101 := n2_; have GE101 := n3_; clear n0_ n1_ n2_ n3_; clear hb hbox hg; have hcz7_0 : w6.cell? ⟨gb101, 0, none⟩ = some (.int .i64 a0_0) := (blk_cell BK101.out 0).trans rfl; have hcz7_1 : w6.cell? ⟨gb101, 1, none⟩ = some (.int .i64 a0_1) := (blk_cell BK101.out 1).trans rfl; have hfz7_0 := blk_frozen BK101.out 0; have hfz7_1 := blk_frozen BK101.out 1))
     go_ret
     exact ⟨by first | rfl | (simp [errW_none, errW_some] <;> rfl) | (simp [*, errW_none, errW_some] <;> rfl), by repeat (first | (with_reducible first | exact HB.out | apply below_alloc | apply pw_below_drewN | apply below_drew1 | refine below_set ?_ GE101.out) | exact HB.out)⟩
 · rw [if_neg c2] at H
   have c2b0 : decide ((-1099511627776) ≤ a0_0) = false := decide_eq_false c2
   clear c2
   obtain rfl := Option.some.inj H
   go_enter Try.func70, Try.ntmps70
   go_wp2_with (first | ((with_reducible refine gate_dst (N := 1) rfl ?_); refine box_event ?hg (N := 1) ?hd (cs := #[.int .i64 a0_0, .int .i64 a0_1]) (t := 32) ?hr ?_; (case hd => rfl); (case hg => rfl); (case hr => first | (go_simp; done) | (go_simp; rfl)); intro gb101 hg w8 hbox hb; have n0_ := Aside0.mk (below_step (by repeat (first | (with_reducible first | exact HB.out | apply below_alloc | apply pw_below_drewN | apply below_drew1) | exact HB.out)) hb); have n1_ := Aside0.mk (hbox); have n2_ := Aside0.mk ((by rw [hg]; exact (below_size (by repeat (first | (with_reducible first | exact HB.out | apply below_alloc | apply pw_below_drewN | apply below_drew1) | exact HB.out))) : w.heap.size ≤ gb101)); have n3_ := Aside0.mk ((by rw [hg]; exact (below_size (by repeat (first | (with_reducible first | exact HB.out | apply below_alloc | apply pw_below_drewN | apply below_drew1) | exact HB.out))) : w.heap.size ≤ gb101)); clear HB; have HB := n0_; have BK101 := n1_; have GW101 := n2_; have GE101 := n3_; clear n0_ n1_ n2_ n3_; clear hb hbox hg; have hcz9_0 : w8.cell? ⟨gb101, 0, none⟩ = some (.int .i64 a0_0) := (blk_cell BK101.out 0).trans rfl; have hcz9_1 : w8.cell? ⟨gb101, 1, none⟩ = some (.int .i64 a0_1) := (blk_cell BK101.out 1).trans rfl; have hfz9_0 := blk_frozen BK101.out 0; have hfz9_1 := blk_frozen BK101.out 1))
   go_ret
   exact ⟨by first | rfl | (simp [errW_none, errW_some] <;> rfl) | (simp [*, errW_none, errW_some] <;> rfl), by repeat (first | (with_reducible first | exact HB.out | apply below_alloc | apply pw_below_drewN | apply below_drew1 | refine below_set ?_ GE101.out) | exact HB.out)⟩
end Go.Proofs.Ytningpmoojnomaa.Pr
end
