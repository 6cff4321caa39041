/- What the proof of the law needs, trimmed and merged by wip/pack.py out of the texts YtningpmoojnomaaExtStc, YtningpmoojnomaaRowI, YtningpmoojnomaaExtBy, YtningpmoojnomaaExtStab, YtningpmoojnomaaMet, YtningpmoojnomaaExtTrays, YtningpmoojnomaaLay. No condition. -/
import Derived.Maps.Range
import Derived.RangeFuncBox
import Derived.Test.YtningpmoojnomaaKSpanPoints0
import Derived.Test.YtningpmoojnomaaKSpanPoints1
import Derived.Test.YtningpmoojnomaaKSpanPoints2
import Derived.Test.YtningpmoojnomaaKSpanPoints3
import Derived.Test.YtningpmoojnomaaKSpanPoints4
import Derived.Test.YtningpmoojnomaaKSpanPoints5
import Derived.Test.YtningpmoojnomaaKSpanPoints6
import Derived.Test.YtningpmoojnomaaKSpanPoints7
section
namespace Go.Proofs.Ytningpmoojnomaa.Pr
open Go.Shelf Go.RowKit Go.Lib Go.Sort Go.Proofs.YtningpmoojnomaaW.PrintWords
set_option linter.unusedVariables false
set_option linter.unusedSimpArgs false
section
variable (kf : Int → Int) (g : Nat) (cb : Array Value) (blk off cap N : Nat) (d0 : Array Int) (w0 : World) (R : Row1 eI w0 blk off d0) (hs : d0.size = N) (hcmp : CmpOn kf g cb blk off N w0) (eg : ∀ args w, (callFunc g args).run Try.prog w = .ok (.enter g args) w) (hsz : N < 4611686018427387904)
include R hs hcmp eg hsz
theorem symMerge_c : ∀ (n : Nat) (w : World) (a m b : Nat) (X L Rr Y : List Int), L.length + Rr.length ≤ n → 0 < L.length → 0 < Rr.length → L.Pairwise (Ord kf) → Rr.Pairwise (Ord kf) → (∀ l ∈ L, ∀ r ∈ Rr, l < r) → a = X.length → m = X.length + L.length → b = X.length + L.length + Rr.length → (X ++ L ++ Rr ++ Y).length = N → (∀ x ∈ X ++ L ++ Rr ++ Y, 0 ≤ x ∧ x < (N : Int)) → SW eI w0 blk off (X ++ L ++ Rr ++ Y).toArray w →
      Calls Try.prog 121 #[.slice (some ⟨blk, off, none⟩) N cap, .int .i64 a, .int .i64 m, .int .i64 b, .func (.func g) #[] cb] w fun e w' => e = .returned (.tuple #[]) ∧ ∃ M, M.Perm (L ++ Rr) ∧ M.Pairwise (Ord kf) ∧ SW eI w0 blk off (X ++ M ++ Y).toArray w'
  | 0, w, a, m, b, X, L, Rr, Y, hn, hl, hr, _, _, _, _, _, _, _, _, _ => by omega
  | n + 1, w, a, m, b, X, L, Rr, Y, hn, hl, hr, hLs, hRs, hLR, ha, hm, hb, hN, hP, S => by
    by_cases hle : L.length + Rr.length ≤ n
    · exact symMerge_c n w a m b X L Rr Y hle hl hr hLs hRs hLR ha hm hb hN hP S
    · by_cases h1 : L.length = 1
      · obtain ⟨z, rfl⟩ := List.length_eq_one_iff.1 h1
        have e : X ++ [z] ++ Rr ++ Y = X ++ z :: Rr ++ Y := by simp
        rw [e] at hN S hP
        have := symOne_c kf g cb blk off cap N d0 w0 R hs hcmp eg hsz w a m b X Rr Y z ha (by simpa using hm) (by simpa using hb) hN hRs (fun r hr => hLR z (by simp) r hr) hP S
        simpa using this
      · by_cases h2 : Rr.length = 1
        · obtain ⟨y, rfl⟩ := List.length_eq_one_iff.1 h2
          have e : X ++ L ++ [y] ++ Y = X ++ (L ++ y :: []) ++ Y := by simp
          rw [e] at hN S hP
          refine (symLast_c kf g cb blk off cap N d0 w0 R hs hcmp eg hsz w a m b X L Y y ha hm (by simpa using hb) h1 hN hLs (fun l hl => hLR l hl y (by simp)) hP S).mono ?_
          rintro e w' ⟨he, M, p1, p2, p3⟩
          exact ⟨he, M, p1.trans (List.perm_append_singleton y L).symm, p2, p3⟩
        · have hbN : b ≤ N := by rw [← hN]; simp only [List.length_append]; omega
          by_cases hmid : (a + b) / 2 < m
          · exact symMore_c kf g cb blk off cap N d0 w0 R hs hcmp eg hsz w n a m b ((a + b) / 2) ((a + b) / 2 + m - b) ((a + b) / 2) ((a + b) / 2 + m) ((a + b) / 2 + m - 1) X L Rr Y
              ⟨by omega, by omega, hbN, rfl, rfl, by omega, by omega, by omega, by omega, by omega, by omega, .inr (by omega), .inr rfl⟩ (.inl ⟨hmid, by omega, rfl⟩) (by omega) h1 h2 hLs hRs hLR ha hm hb hN hP (symMerge_c n) S
          · exact symMore_c kf g cb blk off cap N d0 w0 R hs hcmp eg hsz w n a m b ((a + b) / 2) a m ((a + b) / 2 + m) ((a + b) / 2 + m - 1) X L Rr Y
              ⟨by omega, by omega, hbN, rfl, rfl, by omega, by omega, by omega, by omega, by omega, by omega, .inl rfl, .inl rfl⟩ (.inr ⟨hmid, rfl, rfl⟩) (by omega) h1 h2 hLs hRs hLR ha hm hb hN hP (symMerge_c n) S
end
/-- Two neighbouring blocks become one. -/
def Keeps (kf : Int → Int) (A b : Nat) (l l' : List Int) : Prop := (∀ s e, e ≤ A → Seg kf l s e → Seg kf l' s e) ∧ (∀ s e, b ≤ s → Seg kf l s e → Seg kf l' s e)
section
variable {kf : Int → Int} {g : Nat} {cb : Array Value} {blk off cap N : Nat} {d0 : Array Int} {w0 : World} (R : Row1 eI w0 blk off d0) (hs : d0.size = N) (hcmp : CmpOn kf g cb blk off N w0) (eg : ∀ args w, (callFunc g args).run Try.prog w = .ok (.enter g args) w) (hsz : N < 4611686018427387904)
include R hs hcmp eg hsz
theorem symSeg_c (w : World) (A m b : Nat) (l : List Int) (h1 : A < m) (h2 : m < b) (h3 : b ≤ N) (hl : l.length = N) (s1 : Seg kf l A m) (s2 : Seg kf l m b) (hP : ∀ x ∈ l, 0 ≤ x ∧ x < (N : Int)) (S : SW eI w0 blk off l.toArray w) :
    Calls Try.prog 121 #[.slice (some ⟨blk, off, none⟩) N cap, .int .i64 A, .int .i64 m, .int .i64 b, .func (.func g) #[] cb] w fun e w' => e = .returned (.tuple #[]) ∧ ∃ l' : List Int, l'.length = N ∧ Seg kf l' A b ∧ Keeps kf A b l l' ∧ (∀ x ∈ l', 0 ≤ x ∧ x < (N : Int)) ∧ SW eI w0 blk off l'.toArray w' := by
  have hc := cut3 l A m b (by omega) (by omega)
  have lA : (l.take A).length = A := by rw [List.length_take]; omega
  have lL : (sub l A m).length = m - A := sub_len l A m (by omega)
  have lR : (sub l m b).length = b - m := sub_len l m b (by omega)
  have hN : (l.take A ++ sub l A m ++ sub l m b ++ l.drop b).length = N := by rw [← hc]; exact hl
  have hP' : ∀ x ∈ l.take A ++ sub l A m ++ sub l m b ++ l.drop b, 0 ≤ x ∧ x < (N : Int) := fun x hx => hP x (by rw [hc]; exact hx)
  rw [hc] at S
  refine (symMerge_c kf g cb blk off cap N d0 w0 R hs hcmp eg hsz _ w A m b (l.take A) (sub l A m) (sub l m b) (l.drop b) (Nat.le_refl _) (by omega) (by omega) s1.1 s2.1 (fun x hx y hy => ?_) lA.symm (by omega) (by omega) hN hP' S).mono ?_
  · have hx' := (irange_mem A m x).1 (s1.2.mem_iff.1 hx)
    have hy' := (irange_mem m b y).1 (s2.2.mem_iff.1 hy)
    omega
  · rintro e w' ⟨he, M, p1, p2, p3⟩
    have hM : M.length = b - A := by rw [p1.length_eq, List.length_append, lL, lR]; omega
    refine ⟨he, _, ?_, ⟨?_, ?_⟩, ⟨fun s e he hse => seg_left hse (by omega) he, fun s e hbs hse => seg_right hse (by rw [List.length_append, lA, hM]; omega) hbs⟩, fun x hx => hP' x ?_, p3⟩
    · simp only [List.length_append, List.length_drop, lA, hM]; omega
    · rw [sub_mid _ _ _ A b lA (by omega)]; exact p2
    · rw [sub_mid _ _ _ A b lA (by omega)]
      refine p1.trans ?_
      rw [← irange_append A m b (by omega) (by omega)]
      exact s1.2.append s2.2
    · simp only [List.mem_append] at hx ⊢
      rcases hx with (hx | hx) | hx
      · exact .inl (.inl (.inl hx))
      · rcases List.mem_append.1 (p1.mem_iff.1 hx) with hx | hx
        · exact .inl (.inl (.inr hx))
        · exact .inl (.inr hx)
      · exact .inr hx
theorem insSeg_c (w : World) (A b : Nat) (l : List Int) (h1 : A ≤ b) (h3 : b ≤ N) (hl : l.length = N) (hd : l.drop A = irange A N) (hP : ∀ x ∈ l, 0 ≤ x ∧ x < (N : Int)) (S : SW eI w0 blk off l.toArray w) :
    Calls Try.prog 120 #[.slice (some ⟨blk, off, none⟩) N cap, .int .i64 A, .int .i64 b, .func (.func g) #[] cb] w fun e w' => e = .returned (.tuple #[]) ∧ ∃ l' : List Int, l'.length = N ∧ Seg kf l' A b ∧ (∀ s e, e ≤ A → Seg kf l s e → Seg kf l' s e) ∧ l'.drop b = irange b N ∧ (∀ x ∈ l', 0 ≤ x ∧ x < (N : Int)) ∧ SW eI w0 blk off l'.toArray w' := by
  have lA : (l.take A).length = A := by rw [List.length_take]; omega
  have hq : (irange A b).length = b - A := irange_len A b
  have e0 : l = l.take A ++ irange A b ++ irange b N := by
    rw [List.append_assoc, irange_append A b N h1 h3, ← hd, List.take_append_drop]
  rw [e0] at S
  refine (insSort_c kf g cb blk off cap N d0 w0 R hs hcmp eg hsz w A b (l.take A) (irange A b) (irange b N) lA.symm (by omega) (by rw [← e0]; exact hl) (irange_lt A b) (by rw [← e0]; exact hP) S).mono ?_
  rintro e w' ⟨he, M, m1, m2, hS⟩
  have hM : M.length = b - A := by rw [m1.length_eq, hq]
  refine ⟨he, _, ?_, ⟨?_, ?_⟩, fun s e he hse => seg_left hse (by omega) he, ?_, fun x hx => hP x ?_, hS⟩
  · simp only [List.length_append, lA, hM, irange_len]; omega
  · rw [sub_mid _ _ _ A b lA (by omega)]; exact m2
  · rw [sub_mid _ _ _ A b lA (by omega)]; exact m1
  · rw [List.drop_left' (by rw [List.length_append, lA, hM]; omega)]
  · rw [e0]
    simp only [List.mem_append] at hx ⊢
    rcases hx with (hx | hx) | hx
    · exact .inl (.inl hx)
    · exact .inl (.inr (m1.mem_iff.1 hx))
    · exact .inr hx
end
/-- From A on: blocks of bs. -/
def Bk (kf : Int → Int) (bs A n : Nat) (l : List Int) : Prop := ∀ k, A + k * bs < n → Seg kf l (A + k * bs) (min (A + k * bs + bs) n)
/-- Up to A: blocks of D. -/
def Dn (kf : Int → Int) (D A : Nat) (l : List Int) : Prop := ∀ k, k * D + D ≤ A → Seg kf l (k * D) (k * D + D)
theorem dn_step {kf : Int → Int} {D q : Nat} {l l' : List Int} (h : Dn kf D (q * D) l) (hk : ∀ s e, e ≤ q * D → Seg kf l s e → Seg kf l' s e) (hs : Seg kf l' (q * D) (q * D + D)) : Dn kf D ((q + 1) * D) l' := by
  intro k hkD
  by_cases hkq : k < q
  · have : k * D + D ≤ q * D := by rw [← Nat.succ_mul]; exact Nat.mul_le_mul_right _ hkq
    exact hk _ _ this (h k this)
  · by_cases hD : D = 0
    · subst hD
      simp only [Nat.mul_zero, Nat.add_zero] at *
      exact hs
    · have : k = q := by
        have h1 : (k + 1) * D ≤ (q + 1) * D := by rw [Nat.succ_mul]; exact hkD
        have := Nat.le_of_mul_le_mul_right h1 (by omega)
        omega
      subst this
      exact hs
theorem bk_step {kf : Int → Int} {bs A n : Nat} {l l' : List Int} (h : Bk kf bs A n l) (hk : ∀ s e, A + 2 * bs ≤ s → Seg kf l s e → Seg kf l' s e) : Bk kf bs (A + 2 * bs) n l' := by
  intro k hkn
  have e : A + 2 * bs + k * bs = A + (k + 2) * bs := by rw [Nat.add_mul]; omega
  rw [e] at hkn ⊢
  exact hk _ _ (by rw [← e]; omega) (h (k + 2) hkn)
theorem bk_done {kf : Int → Int} {D q n : Nat} {l : List Int} (hq : q * D ≤ n) (hn : n < q * D + D) (h : Dn kf D (q * D) l) (hs : q * D < n → Seg kf l (q * D) n) : Bk kf D 0 n l := by
  intro k hkn
  rw [Nat.zero_add] at hkn ⊢
  by_cases hkq : k < q
  · have h1 : k * D + D ≤ q * D := by rw [← Nat.succ_mul]; exact Nat.mul_le_mul_right _ hkq
    have h2 := h k h1
    rw [Nat.min_eq_left (by omega)]
    exact h2
  · have : k = q := by
      have h1 : k * D < (q + 1) * D := by rw [Nat.succ_mul]; omega
      have := Nat.lt_of_mul_lt_mul_right h1
      omega
    subst this
    rw [Nat.min_eq_right (by omega)]
    exact hs hkn
theorem bk_first {kf : Int → Int} {q n : Nat} {l : List Int} (hq : q * 20 ≤ n) (hn : n < q * 20 + 20) (h : Dn kf 20 (q * 20) l) (hs : Seg kf l (q * 20) n) : Bk kf 20 0 n l := bk_done hq hn h (fun _ => hs)
section
variable {kf : Int → Int} {g : Nat} {cb : Array Value} {blk off cap N : Nat} {d0 : Array Int} {w0 : World} (R : Row1 eI w0 blk off d0) (hs : d0.size = N) (hcmp : CmpOn kf g cb blk off N w0) (eg : ∀ args w, (callFunc g args).run Try.prog w = .ok (.enter g args) w) (hsz : N < 4611686018427387904)
include R hs hcmp eg hsz
set_option maxHeartbeats 8000000 in
set_option maxRecDepth 1000000 in
theorem stable_c (w : World) (S : SW eI w0 blk off (irange 0 N).toArray w) :
    Calls Try.prog 111 #[.slice (some ⟨blk, off, none⟩) N cap, .int .i64 N, .func (.func g) #[] cb] w fun e w' => e = .returned (.tuple #[]) ∧ SW eI w0 blk off (byL kf N).toArray w' := by
  have HSYM := Aside0.mk (fun w A m b l h1 h2 h3 hl s1 s2 hP S => symSeg_c (kf := kf) (cap := cap) R hs hcmp eg hsz w A m b l h1 h2 h3 hl s1 s2 hP S)
  have HINS := Aside0.mk (fun w A b l h1 h3 hl hd hP S => insSeg_c (kf := kf) (cap := cap) R hs hcmp eg hsz w A b l h1 h3 hl hd hP S)
  have S0 : Aside0 (SW eI w0 blk off (irange 0 N).toArray w) := ⟨S⟩
  clear S hcmp R hs eg
  go_enter Try.func111, Try.ntmps111
  go_wp2
  go_loopg [7, 8] (N + 20) (fun kx s7 s8 wr => ∃ (q A B : Nat) (l : List Int), s7 = .int .i64 A ∧ s8 = .int .i64 B ∧ B ≤ A + 20 ∧ A + 20 ≤ B ∧ A ≤ N ∧ N + 20 - A ≤ kx ∧ Aside0 (A = q * 20) ∧ Aside0 (l.length = N) ∧ Aside0 (Dn kf 20 A l) ∧ Aside0 (l.drop A = irange A N) ∧ Aside0 (∀ x ∈ l, 0 ≤ x ∧ x < (N : Int)) ∧ Aside0 (SW eI w0 blk off l.toArray wr))
  case atStart => exact ⟨0, 0, 20, irange 0 N, rfl, rfl, by omega, by omega, by omega, by omega, ⟨rfl⟩, ⟨by rw [irange_len]; omega⟩, ⟨fun k hk => by omega⟩, ⟨by simp⟩, ⟨fun x hx => (irange_mem 0 N x).1 hx⟩, S0⟩
  case round =>
    clear S0
    obtain ⟨q, A, B, l, rfl, rfl, hB1, hB2, hAN, hkx, HA, HL, HD, HR, HPP, HS⟩ := hrel
    by_cases hlt : B ≤ N
    · have hltz : (B : Int) ≤ (N : Int) := by omega
      have hc := HINS.out wr A B l (by omega) hlt HL.out HR.out HPP.out HS.out
      go_wp2_with (go_at_call 120; with_reducible refine hc.mono ?_; clear hc; rintro e w2 ⟨rfl, hp⟩; have HP := Aside0.mk hp; clear hp)
      go_roundg (N + 20 - B)
      case measure => omega
      case rel =>
        obtain ⟨l', h1, h2, h3, h4, h6, h5⟩ := HP.out
        have hA := HA.out
        have eB : B = A + 20 := by omega
        rw [eB] at h2 h4
        exact ⟨q + 1, B, B + 20, l', rfl, by go_num, by omega, by omega, by omega, by omega, ⟨by omega⟩, ⟨h1⟩, ⟨by rw [eB]; have := dn_step (kf := kf) (D := 20) (q := q) (l := l) (l' := l') (by rw [← hA]; exact HD.out) (by rw [← hA]; exact h3) (by rw [← hA]; exact h2); rwa [Nat.succ_mul, ← hA] at this⟩, ⟨by rw [eB]; exact h4⟩, ⟨h6⟩, ⟨h5⟩⟩
    · have hltz : ¬ (B : Int) ≤ (N : Int) := by omega
      have hc := HINS.out wr A N l hAN (Nat.le_refl _) HL.out HR.out HPP.out HS.out
      go_wp2_with (go_at_call 120; with_reducible refine hc.mono ?_; clear hc; rintro e w2 ⟨rfl, hp⟩; have HP := Aside0.mk hp; clear hp)
      go_loopg [6] N (fun kx s6 wr2 => ∃ (bs : Nat) (l : List Int), s6 = .int .i64 bs ∧ 20 ≤ bs ∧ bs ≤ 2 * N + 20 ∧ N - bs ≤ kx ∧ Aside0 (l.length = N) ∧ Aside0 (Bk kf bs 0 N l) ∧ Aside0 (∀ x ∈ l, 0 ≤ x ∧ x < (N : Int)) ∧ Aside0 (SW eI w0 blk off l.toArray wr2))
      case atStart =>
        obtain ⟨l', h1, h2, h3, h4, h6, h5⟩ := HP.out
        have hA := HA.out
        exact ⟨20, l', rfl, by omega, by omega, by omega, ⟨h1⟩, ⟨bk_first (q := q) (by omega) (by omega) (fun k hk => h3 _ _ (by omega) (HD.out k (by omega))) (by rw [← hA]; exact h2)⟩, ⟨h6⟩, ⟨h5⟩⟩
      case round =>
        clear HP HL HD HR HS HA hAN hkx HPP
        obtain ⟨bs, l, rfl, hb1, hb2, hkx, HL, HB, HPP, HS⟩ := hrel
        by_cases hlt2 : bs < N
        · have hltz2 : (bs : Int) < (N : Int) := by omega
          obtain ⟨D, hD⟩ : ∃ D, D = 2 * bs := ⟨_, rfl⟩
          have hDz : 2 * (bs : Int) = (D : Int) := by omega
          have hDz2 : (bs : Int) * 2 = (D : Int) := by omega
          have hDb : D ≤ 2 * N ∧ bs < D := by omega
          have HD := Aside0.mk hD
          clear hD
          go_wp2
          go_loopg [7, 8] (N + D) (fun kx2 s7 s8 wr3 => ∃ (q A B : Nat) (l : List Int), s7 = .int .i64 A ∧ s8 = .int .i64 B ∧ B ≤ A + D ∧ A + D ≤ B ∧ A ≤ N ∧ N + D - A ≤ kx2 ∧ Aside0 (A = q * D) ∧ Aside0 (l.length = N) ∧ Aside0 (Dn kf D A l) ∧ Aside0 (Bk kf bs A N l) ∧ Aside0 (∀ x ∈ l, 0 ≤ x ∧ x < (N : Int)) ∧ Aside0 (SW eI w0 blk off l.toArray wr3))
          case atStart => exact ⟨0, 0, D, l, rfl, by go_num, by omega, by omega, by omega, by omega, ⟨by omega⟩, HL, ⟨fun k hk => by omega⟩, HB, HPP, HS⟩
          case round =>
            clear HL HB HS HPP
            obtain ⟨q, A, B, l, rfl, rfl, hB1, hB2, hAN, hkx2, HA, HL, HDN, HB, HPP, HS⟩ := hrel
            obtain ⟨M, hM⟩ : ∃ M, M = A + bs := ⟨_, rfl⟩
            have hMz : (A : Int) + (bs : Int) = (M : Int) := by omega
            have hMb : A < M ∧ M < A + D := by omega
            have HM := Aside0.mk hM
            clear hM
            have HK0 := Aside0.mk (fun (h : A < N) => show Seg kf l A (min M N) from by have := HB.out 0 (by omega); rw [HM.out]; simpa using this)
            by_cases hlt3 : B ≤ N
            · have hltz3 : (B : Int) ≤ (N : Int) := by omega
              have hc := HSYM.out wr A M B l hMb.1 (by omega) hlt3 HL.out (by have := HK0.out (by omega); rwa [Nat.min_eq_left (by omega)] at this) (by have h := HB.out 1 (by have := HM.out; omega); have h1 := HM.out; have h2 := HD.out; rw [Nat.one_mul, ← h1, Nat.min_eq_left (by omega), show M + bs = B by omega] at h; exact h) HPP.out HS.out
              go_wp2_with (go_at_call 121; with_reducible refine hc.mono ?_; clear hc; rintro e w3 ⟨rfl, hp⟩; have HP := Aside0.mk hp; clear hp)
              go_roundg (N + D - B)
              case measure => omega
              case rel =>
                obtain ⟨l', h1, h2, ⟨h3, h4⟩, h6, h5⟩ := HP.out
                have hA := HA.out
                have hD := HD.out
                have eB : B = A + D := by omega
                rw [eB] at h2 h4
                exact ⟨q + 1, B, B + D, l', rfl, by go_num, by omega, by omega, by omega, by omega, ⟨by rw [Nat.succ_mul, ← hA, eB]⟩, ⟨h1⟩, ⟨by rw [eB]; have := dn_step (kf := kf) (D := D) (q := q) (l := l) (l' := l') (by rw [← hA]; exact HDN.out) (by rw [← hA]; exact h3) (by rw [← hA]; exact h2); rwa [Nat.succ_mul, ← hA] at this⟩, ⟨by rw [eB, hD]; rw [hD] at h4; exact bk_step HB.out h4⟩, ⟨h6⟩, ⟨h5⟩⟩
            · have hltz3 : ¬ (B : Int) ≤ (N : Int) := by omega
              by_cases hlt4 : M < N
              · have hltz4 : (M : Int) < (N : Int) := by omega
                have hc := HSYM.out wr A M N l hMb.1 hlt4 (Nat.le_refl _) HL.out (by have := HK0.out (by omega); rwa [Nat.min_eq_left (by omega)] at this) (by have h := HB.out 1 (by have := HM.out; omega); have h1 := HM.out; have h2 := HD.out; rw [Nat.one_mul, ← h1, Nat.min_eq_right (by omega)] at h; exact h) HPP.out HS.out
                go_wp2_with (go_at_call 121; with_reducible refine hc.mono ?_; clear hc; rintro e w3 ⟨rfl, hp⟩; have HP := Aside0.mk hp; clear hp)
                go_roundg (N - D)
                case measure => omega
                case rel =>
                  obtain ⟨l', h1, h2, ⟨h3, h4⟩, h6, h5⟩ := HP.out
                  have hA := HA.out
                  exact ⟨D, l', rfl, by omega, by omega, by omega, ⟨h1⟩, ⟨bk_done (q := q) (by rw [← hA]; exact hAN) (by rw [← hA]; omega) (fun k hk => h3 _ _ (by rw [hA]; exact hk) (HDN.out k (by rw [hA]; exact hk))) (fun _ => by rw [← hA]; exact h2)⟩, ⟨h6⟩, ⟨h5⟩⟩
              · have hltz4 : ¬ (M : Int) < (N : Int) := by omega
                go_wp2
                go_roundg (N - D)
                case measure => omega
                case rel =>
                  have hA := HA.out
                  exact ⟨D, l, rfl, by omega, by omega, by omega, HL, ⟨bk_done (q := q) (by rw [← hA]; exact hAN) (by rw [← hA]; omega) (by rw [← hA]; exact HDN.out) (fun h => by rw [← hA]; have := HK0.out (by rw [hA]; exact h); rwa [Nat.min_eq_right (by omega)] at this)⟩, HPP, HS⟩
        · have hltz2 : ¬ (bs : Int) < (N : Int) := by omega
          go_wp2
          go_end0
          refine ⟨rfl, ?_⟩
          have hseg : Seg kf l 0 N := by
            by_cases h0 : 0 < N
            · have := HB.out 0 (by omega)
              simpa [Nat.min_eq_right (show N ≤ bs by omega)] using this
            · have : N = 0 := by omega
              subst this
              exact ⟨by simp [sub], by simp [sub, irange]⟩
          rw [← seg_all HL.out hseg]
          exact HS.out
theorem sortStable_c (w : World) (S : SW eI w0 blk off (irange 0 N).toArray w) :
    Calls Try.prog 98 #[.slice (some ⟨blk, off, none⟩) N cap, .func (.func g) #[] cb] w fun e w' => e = .returned (.tuple #[]) ∧ SW eI w0 blk off (byL kf N).toArray w' := by
  have HC := Aside0.mk (stable_c (kf := kf) (cap := cap) R hs hcmp eg hsz w S)
  clear S hcmp R hs eg
  go_enter Try.func98, Try.ntmps98
  go_wp2_with (go_at_call 111; with_reducible refine HC.out.mono ?_; rintro e w2 ⟨rfl, hp⟩)
  go_end0
  exact ⟨rfl, hp⟩
end
end Go.Proofs.Ytningpmoojnomaa.Pr
end
section
namespace Go.Proofs.Ytningpmoojnomaa.Pr
open Go.RowKit Go.Sort Go.Proofs.YtningpmoojnomaaW.PrintWords Go.Proofs.YtningpmoojnomaaW.PrintLast Go.Proofs.YtningpmoojnomaaW.PrintMore
set_option linter.unusedVariables false
set_option linter.unusedSimpArgs false
def RowI (w : World) (base : Nat) (v : Value) (l : List Int) : Prop := w.ownsRow base 3 1 v l.length (l.map (Value.int .i64))
theorem cur_at {cur : Array Value} {l : List Int} (h : cur.toList.take l.length = l.map (Value.int .i64)) (j : Nat) (hj : j < l.length) : cur[j]? = some (.int .i64 l[j]) := by
  have := congrArg (fun z => z[j]?) h
  simp only [List.getElem?_take, if_pos hj, List.getElem?_map, List.getElem?_eq_getElem hj, Option.map_some] at this
  simpa using this
theorem row_holds {w : World} {g : Nat} {cur : Array Value} {l : List Int} (hb : w.heap[g]? = some (.cells cur 3 (0, 0))) (h : cur.toList.take l.length = l.map (Value.int .i64)) : Holds (Value.int .i64) w g 0 l.toArray := by
  intro j hj
  have hj' : j < l.length := by simpa using hj
  refine ⟨?_, blk_frozen hb _⟩
  rw [blk_cell hb, Nat.zero_add, cur_at h j hj', getElem!_pos l.toArray j hj]
  simp
theorem putRow_id (w : World) (g : Nat) (d : List Int) : putRow (Value.int .i64) w g 0 d.toArray = putRow id w g 0 (d.map (Value.int .i64)).toArray := by
  unfold putRow
  congr 1
  funext c
  unfold putCells
  congr 1
  funext k x
  simp only [Nat.zero_le, true_and, Nat.zero_add, Nat.sub_zero, List.size_toArray, List.length_map, id]
  by_cases hk : k < d.length
  · rw [if_pos hk, if_pos hk, getElem!_pos d.toArray k (by simpa using hk), getElem!_pos (d.map (Value.int .i64)).toArray k (by simpa using hk)]
    simp
  · rw [if_neg hk, if_neg hk]
/-- Laid anew it is owned again; its first m numbers are owned by the slice cut to m. -/
theorem row_put {w : World} {base g c : Nat} {cur : Array Value} {d : List Int} {n : Nat} (m : Nat) (os : Array Obj) (h1 : base ≤ g) (h2 : w.heap[g]? = some (.cells cur 3 (0, 0))) (h3 : n ≤ c) (h4 : c ≤ maxLen) (h5 : cur.size = c) (hd : d.length = n) (q : Nat) (hq : q ≤ n) :
    RowI (grow (putRow (Value.int .i64) (Sort.ahead w m) g 0 d.toArray) os) base (.slice (some ⟨g, 0, none⟩) q c) (d.take q) ∧ w.grownBy (grow (putRow (Value.int .i64) (Sort.ahead w m) g 0 d.toArray) os) (some g) := by
  rw [putRow_id]
  refine ⟨?_, grownBy_put _⟩
  have := own_put (w := w) (base := base) (g := g) (cap := c) (n := n) (k := 1) (m := m) (e := 3) (os := os) (cur := cur) (ts := d.map (Value.int .i64)) h1 h2 h3 h4 (by omega) (by simp [hd])
  rcases this with ⟨_, ⟨e, _⟩ | ⟨g', cap', cur', e, a1, a2, a3, a4, a5, a6⟩⟩
  · cases e
  · injection e with e1 _ e3
    injection e1 with e1
    injection e1 with e1
    subst e1 e3
    have hlen : (d.take q).length = q := by rw [List.length_take]; omega
    refine ⟨by simp, .inr ⟨g, c, cur', by rw [hlen], a1, a2, by omega, a4, a5, ?_⟩⟩
    rw [hlen, Nat.mul_one, List.map_take, ← a6, List.take_take]
    congr 1
    omega
end Go.Proofs.Ytningpmoojnomaa.Pr
end
section
namespace Go.Proofs.Ytningpmoojnomaa.Pr
open Go.Shelf Go.RowKit Go.Lib Go.Sort Go.Proofs.YtningpmoojnomaaW.PrintWords Go.Proofs.YtningpmoojnomaaW.PrintLast Go.Proofs.YtningpmoojnomaaW.PrintMore
set_option linter.unusedVariables false
set_option linter.unusedSimpArgs false
/-- The key of an index. -/
def kfS (key : S32 → Int) (l : List S32) (i : Int) : Int := key (l.getD i.toNat z32)
/-- What is asked of a key: it answers; it may lay blocks. -/
def KeyAt (fk : Nat) (key : S32 → Int) : Prop := ∀ (W : World) (a b : Int), Calls Try.prog fk #[.agg #[.int .i64 a, .int .i64 b]] W fun e w' => e = .returned (.int .i64 (key ⟨a, b⟩)) ∧ ∃ q os', w' = grow (W.drewN q) os'
set_option maxHeartbeats 1000000 in
theorem key97 : KeyAt 97 (fun s => s.f1) := by
  intro W a b
  have hu32 := Try.underlying32
  go_enter Try.func97, Try.ntmps97
  go_wp2
  go_ret
  exact ⟨rfl, 0, _, by rw [alloc_eq_grow]; rfl⟩
set_option maxHeartbeats 1000000 in
theorem key81 : KeyAt 81 (fun s => s.f0) := by
  intro W a b
  have hu32 := Try.underlying32
  go_enter Try.func81, Try.ntmps81
  go_wp2
  go_ret
  exact ⟨rfl, 0, _, by rw [alloc_eq_grow]; rfl⟩
theorem grownBy_sort (w : World) (blk off m : Nat) (d : Array Int) (os : Array Obj) : w.grownBy (sortWorld eI w blk off m d os) (some blk) := by
  refine ⟨rfl, rfl, rfl, by simp [sortWorld, grow, putRow, mapBlock, Sort.ahead], fun k hk hne => ?_⟩
  have : blk ≠ k := fun e => hne (by rw [e])
  unfold sortWorld grow
  simp only
  rw [Array.getElem?_append_left (by simpa [putRow, mapBlock, Sort.ahead] using hk)]
  simp [putRow, mapBlock, Sort.ahead, Array.getElem?_modify, this]
theorem cell_grownBy {w w' : World} {row : Option Nat} (h : w.grownBy w' row) {a : Addr} {v : Value} (hne : some a.block ≠ row) (hc : w.cell? a = some v) : w'.cell? a = some v := by
  have hb := World.block_lt_of_cell? w a hc
  have := h.block a.block hb hne
  unfold World.cell? at hc ⊢
  rw [this]
  exact hc
theorem grownBy_grow (w : World) (n : Nat) (os : Array Obj) : w.grownBy (grow (w.drewN n) os) none := by
  refine ⟨rfl, rfl, rfl, by simp [grow], fun k hk _ => ?_⟩
  unfold grow
  simp only
  rw [Array.getElem?_append_left (by simpa using hk)]
  rfl
set_option maxHeartbeats 4000000 in
set_option maxRecDepth 100000 in
theorem closure99 (fk : Nat) (key : S32 → Int) (egk : ∀ args w, (callFunc fk args).run Try.prog w = .ok (.enter fk args) w) (hkey : KeyAt fk key) (Bk Bl : Nat) (A0 : Option Addr) (c0 : Nat) (l0 : List S32) (W : World) (hl : Kd.C k32 W A0 l0.length l0)
    (hb1 : W.cell? ⟨Bk, 0, none⟩ = some (.func (.func fk) #[] #[])) (hb2 : W.cell? ⟨Bl, 0, none⟩ = some (.slice A0 l0.length c0)) (x y : Int) (hx : 0 ≤ x ∧ x < (l0.length : Int)) (hy : 0 ≤ y ∧ y < (l0.length : Int)) :
    Calls Try.prog 99 (#[eI x, eI y] ++ #[.pointer (some ⟨Bk, 0, none⟩), .pointer (some ⟨Bl, 0, none⟩)]) W fun e w' => e = .returned (.int .i64 (cfK (kfS key l0) x y)) ∧ ∃ q os', w' = grow (W.drewN q) os' := by
  have mixed := mixedT
  have hu32 := Try.underlying32
  obtain ⟨ad, e, hx0, hx1⟩ := at_T32 hl x hx.1 hx.2
  subst e
  obtain ⟨ad', e', hy0, hy1⟩ := at_T32 hl y hy.1 hy.2
  injection e' with e'
  subst e'
  have HK := Aside0.mk (show ∀ n os (a b : Int), Calls Try.prog fk #[.agg #[.int .i64 a, .int .i64 b]] (grow (W.drewN n) os) fun e w' => e = .returned (.int .i64 (key ⟨a, b⟩)) ∧ ∃ q os', w' = grow ((grow (W.drewN n) os).drewN q) os' from fun n os a b => hkey _ a b)
  have HCM := Aside0.mk (show ∀ n os (a b : Int), Calls Try.prog 68 #[.int .i64 a, .int .i64 b] (grow (W.drewN n) os) fun e w' => e = .returned (.int .i64 (Lib.compareInt a b)) ∧ ∃ q os', w' = grow ((grow (W.drewN n) os).drewN q) os' from fun n os a b => (Try.cmp_Compare_int a b _).mono fun e w' ⟨h1, h2⟩ => ⟨h1, 0, #[], by rw [grow_empty]; exact h2⟩)
  have g1 : ∀ n os, (grow (W.drewN n) os).cell? ⟨Bk, 0, none⟩ = some (.func (.func fk) #[] #[]) := fun n os => cell_grownBy (grownBy_grow W n os) (by simp) hb1
  have g2 : ∀ n os, (grow (W.drewN n) os).cell? ⟨Bl, 0, none⟩ = some (.slice (some ad) l0.length c0) := fun n os => cell_grownBy (grownBy_grow W n os) (by simp) hb2
  have gx0 := fun n os => cell_grownBy (grownBy_grow W n os) (by simp) hx0
  have gx1 := fun n os => cell_grownBy (grownBy_grow W n os) (by simp) hx1
  have gy0 := fun n os => cell_grownBy (grownBy_grow W n os) (by simp) hy0
  have gy1 := fun n os => cell_grownBy (grownBy_grow W n os) (by simp) hy1
  have ekx : key ⟨(rd_T32 l0 x).f0, (rd_T32 l0 x).f1⟩ = kfS key l0 x := rfl
  have eky : key ⟨(rd_T32 l0 y).f0, (rd_T32 l0 y).f1⟩ = kfS key l0 y := rfl
  have EX := Aside0.mk ekx
  have EY := Aside0.mk eky
  obtain ⟨kx0, kx1, ky0, ky1⟩ := And.intro hx.1 (And.intro hx.2 hy)
  clear hx hy hb1 hb2 hx0 hx1 hy0 hy1 hl hkey ekx eky
  generalize rd_T32 l0 x = sx at gx0 gx1 EX
  generalize rd_T32 l0 y = sy at gy0 gy1 EY
  simp only [List.push_toArray, List.append_toArray, List.nil_append, List.cons_append]
  go_enter Try.func99, Try.ntmps99
  go_wp2
  go_quiet_grown (first | (go_at_fn fk; refine Calls.grown_of (HK.out _ _ _ _)) | (go_at_call 68; refine Calls.grown_of (HCM.out _ _ _ _)))
  rw [EX.out, EY.out]
  go_wp2
  go_ret
  exact ⟨rfl, _, _, rfl⟩
/-- The first k indexes, then zeros. -/
def idxF (n k : Nat) : List Int := irange 0 k ++ List.replicate (n - k) 0
theorem idxF_len (n k : Nat) (h : k ≤ n) : (idxF n k).length = n := by unfold idxF; simp [irange_len]; omega
theorem idxF_set (n k : Nat) (h : k < n) : (idxF n k).set k (k : Int) = idxF n (k + 1) := by
  unfold idxF
  rw [List.set_append_right _ _ (by rw [irange_len]; omega), irange_len, ← irange_append 0 k (k + 1) (by omega) (by omega), List.append_assoc]
  congr 1
  rw [show k - (k - 0) = 0 by omega, show n - k = (n - (k + 1)) + 1 by omega, List.replicate_succ, List.set_cons_zero]
  have : irange k (k + 1) = [(k : Int)] := by
    unfold irange
    rw [show k + 1 - k = 1 by omega]
    rfl
  rw [this]
  rfl
theorem idxF_all (n : Nat) : idxF n n = irange 0 n := by unfold idxF; simp
theorem oneI : OneCell eI := fun x => rfl
theorem make_form {w : World} {base : Nat} {ok : Nat → Prop} {v : Value} {xs : List Int} (h : Kd.R (Kd.int .i64) 3 w base ok v xs) (hn : ∃ b, v.ownBlock = some b ∧ base ≤ b) : ∃ g cap, v = .slice (some ⟨g, 0, none⟩) xs.length cap ∧ base ≤ g ∧ g < w.heap.size := by
  have ho := Kd.own_of_R h
  rcases ho.2 with ⟨rfl, _⟩ | ⟨g, cap, cur, rfl, h1, h2, _⟩
  · obtain ⟨b, hb, _⟩ := hn
    simp [Value.ownBlock] at hb
  · exact ⟨g, cap, rfl, h1, (Array.getElem?_eq_some_iff.1 h2).1⟩
set_option maxHeartbeats 4000000 in
set_option maxRecDepth 100000 in
theorem by_c (fk : Nat) (key : S32 → Int) (egk : ∀ args w, (callFunc fk args).run Try.prog w = .ok (.enter fk args) w) (hkey : KeyAt fk key) (A0 : Option Addr) (c0 : Nat) (l0 : List S32) (w : World) (hr0 : Kd.C k32 w A0 l0.length l0) (hlen : l0.length ≤ 1000) :
    Calls Try.prog 80 #[.slice A0 l0.length c0, .func (.func fk) #[] #[]] w fun e w' => ∃ v, e = .returned v ∧ Kd.R (Kd.int .i64) 3 w' w.heap.size (fun _ => True) v (byL (kfS key l0) l0.length) ∧ Below w.heap.size w w' := by
  have HR0 := Aside0.mk hr0
  have HKEY := Aside0.mk hkey
  have hB0 : Below w.heap.size w ((w.alloc (.cells #[.slice A0 l0.length c0] 22)).alloc (.cells #[.func (.func fk) #[] #[]] 75)) := below_alloc (below_alloc (Below.refl _ _) _) _
  have HB := Aside0.mk hB0
  clear hr0 hkey hB0
  go_enter Try.func80, Try.ntmps80
  go_wp2_with ((with_reducible refine gate_dst (N := 9) rfl ?_); refine Kd.R_make (Kd.int .i64) _ 3 rfl (N := 9) rfl 33 _ _ rfl (l0.length : Int) rfl rfl Try.underlying33 (.int .i64 0) 8 info3 rfl (by decide) (by omega) 0 (ok := fun _ => True) (okp := fun _ => True) rfl (fun _ hk => hk) trivial (by omega) ?hl (Below.refl _ _) (Nat.le_refl _) ?_; (case hl => omega); intro v1 w1 ho1 hb1 hg1 hn1; clear hg1; obtain ⟨g, cap, e, hgb, hgl⟩ := make_form ho1 hn1; subst e; have HO := Aside0.mk ho1; have HB1 := Aside0.mk hb1; clear ho1 hb1 hn1)
  obtain ⟨W2, hW2⟩ : ∃ W2, W2 = (w.alloc (.cells #[.slice A0 l0.length c0] 22)).alloc (.cells #[.func (.func fk) #[] #[]] 75) := ⟨_, rfl⟩
  have hs2 : W2.heap.size = w.heap.size + 2 := by rw [hW2]; simp
  have HC1 := Aside0.mk (show W2.cell? ⟨w.heap.size + 1, 0, none⟩ = some (.func (.func fk) #[] #[]) by rw [hW2]; simp)
  have HC2 := Aside0.mk (show W2.cell? ⟨w.heap.size, 0, none⟩ = some (.slice A0 l0.length c0) by rw [hW2]; simp)
  rw [← hW2] at HO HB1 HB hgb
  have HGB := Aside0.mk hgb
  have HS2 := Aside0.mk hs2
  clear hW2 hs2 hgb
  simp only [List.length_replicate, Int.toNat_natCast] at HO
  go_loopg [12] l0.length (fun gg v12 wr => ∃ kk : Nat, kk ≤ l0.length ∧ l0.length - kk ≤ gg ∧ v12 = .int .i64 kk ∧ Aside0 (Below W2.heap.size W2 wr) ∧ Aside0 (Kd.R (Kd.int .i64) 3 wr W2.heap.size (fun _ => True) (.slice (some ⟨g, 0, none⟩) l0.length cap) (idxF l0.length kk)))
  case atStart => exact ⟨0, Nat.zero_le _, by omega, rfl, HB1, ⟨by unfold idxF; simpa [irange] using HO.out⟩⟩
  case round =>
    clear HO HB1
    obtain ⟨kk, hkk, hg, rfl, HBr, HR⟩ := hrel
    have hel := idxF_len l0.length kk hkk
    by_cases hlt : kk < l0.length
    · have hltz : (kk : Int) < (l0.length : Int) := by omega
      have hr := HR.out
      rw [show Value.slice (some ⟨g, 0, none⟩) l0.length cap = Value.slice (some ⟨g, 0, none⟩) (idxF l0.length kk).length cap by rw [hel]] at hr
      obtain ⟨hx1, hf1⟩ := Kd.R_cell (0 : Int) hr (kk : Int) (by omega) (by omega)
      have HP := Aside0.mk (Kd.R_put hr (kk : Int) (kk : Int)).1
      have HGB2 := HGB
      rw [Int.toNat_natCast] at hx1 hf1
      have HE := Aside0.mk hel
      clear hr hel
      go_wp2
      go_roundg (l0.length - (kk + 1))
      case measure => omega
      case rel =>
        have hp := HP.out
        rw [Int.toNat_natCast, idxF_set _ _ hlt, HE.out] at hp
        exact ⟨kk + 1, by omega, by omega, by go_num, ⟨below_set HBr.out HGB.out⟩, ⟨hp⟩⟩
    · have hltz : ¬ (kk : Int) < (l0.length : Int) := by omega
      have HKK := Aside0.mk (show kk = l0.length by omega)
      have hro := HR.out
      rw [HKK.out, idxF_all] at hro
      have ho := Kd.own_of_R hro
      rw [irange_len, Nat.sub_zero] at ho
      rcases ho.2 with ⟨e, _⟩ | ⟨g', cap', cur, e, q1, q2, q3, q4, q5, q6⟩
      · cases e
      injection e with e1 _ e3
      injection e1 with e1
      injection e1 with e1
      subst e1 e3
      have q6' : cur.toList.take (irange 0 l0.length).length = (irange 0 l0.length).map (Value.int .i64) := by rw [irange_len, Nat.sub_zero]; simpa [encs] using q6
      have hH : Holds eI wr g 0 (irange 0 l0.length).toArray := row_holds q2 q6'
      have hgl2 : g < wr.heap.size := (Array.getElem?_eq_some_iff.1 q2).1
      have hsz0 : (irange 0 l0.length).toArray.size = l0.length := by simp [irange_len]
      have hsp : Kd.C k32 wr A0 l0.length l0 := Kd.C_below (Kd.C_below HR0.out HB.out) HBr.out
      have hspw : ∀ m os (dk : Array Int), Kd.C k32 (sortWorld eI wr g 0 m dk os) A0 l0.length l0 := fun m os dk => by
        have hb : Below W2.heap.size wr (sortWorld eI wr g 0 m dk os) := (Below.refl _ _).grown (grownBy_sort wr g 0 m dk os) HBr.out.size (fun k hk => by cases hk; exact HGB.out)
        exact Kd.C_below (Kd.C_below HR0.out HB.out) (HBr.out.trans hb)
      have hcc1 : ∀ m os (dk : Array Int), (sortWorld eI wr g 0 m dk os).cell? ⟨w.heap.size + 1, 0, none⟩ = some (.func (.func fk) #[] #[]) := fun m os dk => cell_grownBy (grownBy_sort wr g 0 m dk os) (by have := HGB.out; have := HS2.out; simp; omega) ((HBr.out.cell (p := ⟨w.heap.size + 1, 0, none⟩) (by have := HS2.out; simp; omega)).trans HC1.out)
      have hcc2 : ∀ m os (dk : Array Int), (sortWorld eI wr g 0 m dk os).cell? ⟨w.heap.size, 0, none⟩ = some (.slice A0 l0.length c0) := fun m os dk => cell_grownBy (grownBy_sort wr g 0 m dk os) (by have := HGB.out; have := HS2.out; simp; omega) ((HBr.out.cell (p := ⟨w.heap.size, 0, none⟩) (by have := HS2.out; simp; omega)).trans HC2.out)
      have hc := sortStable_c (kf := kfS key l0) (g := 99) (cb := #[.pointer (some ⟨w.heap.size + 1, 0, none⟩), .pointer (some ⟨w.heap.size, 0, none⟩)]) (blk := g) (off := 0) (cap := cap) (N := l0.length) (d0 := (irange 0 l0.length).toArray) (w0 := wr) ⟨oneI, hH, hgl2⟩ hsz0
        (fun m os dk hdk x y hx hy => closure99 fk key egk HKEY.out _ _ A0 c0 l0 _ (hspw m os dk) (hcc1 m os dk) (hcc2 m os dk) x y hx hy) (enters_of Try.func99 (by kernel_rfl) rfl) (by omega) wr (SW.start hH)
      have HC := Aside0.mk hc
      have HPUT := Aside0.mk (fun m os => row_put (w := wr) (base := W2.heap.size) (g := g) (c := cap) (cur := cur) (d := byL (kfS key l0) l0.length) (n := l0.length) m os q1 q2 q3 q4 (by omega) (by rw [(byL_perm _ _).length_eq, irange_len, Nat.sub_zero]) l0.length (Nat.le_refl _))
      clear hc hH hgl2 hsz0 hsp hspw hcc1 hcc2 q1 q2 q3 q4 q5 q6 q6' ho hro hel HR
      go_wp2_with (go_at_call 98; (with_reducible refine HC.out.mono ?_); rintro e w3 ⟨rfl, n3, os3, rfl⟩)
      go_ret
      obtain ⟨p1, p2⟩ := HPUT.out n3 os3
      refine ⟨_, rfl, ?_, ?_⟩
      · refine Kd.R_lower ?_ (show w.heap.size ≤ W2.heap.size from HB.out.size)
        rw [List.take_of_length_le (by rw [(byL_perm _ _).length_eq, irange_len]; omega)] at p1
        exact Kd.R_of_own p1 (fun _ _ => trivial)
      · exact (HB.out.trans (HBr.out.mono HB.out.size)).grown p2 (Nat.le_trans HB.out.size HBr.out.size) (fun k hk => by cases hk; exact Nat.le_trans HB.out.size HGB.out)
end Go.Proofs.Ytningpmoojnomaa.Pr
end
section
namespace Go.Proofs.Ytningpmoojnomaa.Pr
open Go.Shelf Go.RowKit Go.Proofs.YtningpmoojnomaaW.PrintWords Go.Proofs.YtningpmoojnomaaW.PrintLast Go.Proofs.YtningpmoojnomaaW.PrintMore
set_option linter.unusedVariables false
set_option linter.unusedSimpArgs false
def kHi (l : List S32) : Int → Int := kfS (fun s => s.f1) l
def kLo (l : List S32) : Int → Int := kfS (fun s => s.f0) l
/-- One step: the points so far, the spans. -/
def stabS (l : List S32) (st : List Int × List Int) (i : Int) : List Int × List Int :=
  if st.1 = [] ∨ st.1.getLastD 0 < (l.getD i.toNat z32).f0 then (st.1 ++ [wrap64 ((l.getD i.toNat z32).f1 - 1)], st.2 ++ [i]) else st
def stabF (l : List S32) (o : List Int) : List Int × List Int := o.foldl (stabS l) ([], [])
def stabR (l : List S32) : List Int × List Int × Int := if listR l = 0 then ((stabF l (byL (kHi l) l.length)).1, (stabF l (byL (kHi l) l.length)).2, 0) else ([], [], listR l)
def span_stabbed.f (l0 : List S32) : Option (List Int × List Int × Int) := some (stabR l0)
theorem stabF_succ (l : List S32) (o : List Int) (k : Nat) (h : k < o.length) : stabF l (o.take (k + 1)) = stabS l (stabF l (o.take k)) (rd o (k : Int)) := by
  unfold stabF
  rw [List.take_succ_eq_append_getElem h, List.foldl_append]
  simp [rd, List.getD_eq_getElem?_getD, List.getElem?_eq_getElem h]
theorem stabS_len (l : List S32) (st : List Int × List Int) (i : Int) : (stabS l st i).1.length ≤ st.1.length + 1 ∧ (stabS l st i).2.length ≤ st.2.length + 1 := by
  unfold stabS
  split <;> simp
theorem stabF_len (l : List S32) (o : List Int) : ∀ k, k ≤ o.length → (stabF l (o.take k)).1.length ≤ k ∧ (stabF l (o.take k)).2.length ≤ k
  | 0, _ => by simp [stabF]
  | k + 1, h => by
    have := stabF_len l o k (by omega)
    rw [stabF_succ l o k h]
    have := stabS_len l (stabF l (o.take k)) (rd o (k : Int))
    omega
theorem byL_in (kf : Int → Int) (n : Nat) (k : Nat) (h : k < n) : 0 ≤ rd (byL kf n) (k : Int) ∧ rd (byL kf n) (k : Int) < (n : Int) := by
  have hl : (byL kf n).length = n := by rw [(byL_perm kf n).length_eq, irange_len]; omega
  have hm : (byL kf n)[k]'(by omega) ∈ irange 0 n := (byL_perm kf n).mem_iff.1 (List.getElem_mem _)
  have := (irange_mem 0 n _).1 hm
  have e : rd (byL kf n) (k : Int) = (byL kf n)[k]'(by omega) := by simp [rd, List.getD_eq_getElem?_getD, List.getElem?_eq_getElem (show k < (byL kf n).length by omega)]
  rw [e]
  omega
theorem byL_len (kf : Int → Int) (n : Nat) : (byL kf n).length = n := by rw [(byL_perm kf n).length_eq, irange_len]; omega
abbrev KI := Kd.int .i64
set_option maxHeartbeats 8000000 in
set_option maxRecDepth 100000 in
theorem span_stabbed.calls (A0 : Option Addr) (c0 : Nat) (l0 : List S32) (r1 r2 : List Int) (r3 : Int) (w : World) (hr0 : Kd.C k32 w A0 l0.length l0) (hc0 : l0.length ≤ c0) (h : span_stabbed.f l0 = some (r1, r2, r3)) :
    Calls Try.prog 79 #[.slice A0 l0.length c0] w fun e w' => ∃ v0_ v1_ : Value, e = .returned (.tuple #[v0_, v1_, .int .i64 r3]) ∧ Kd.R KI 3 w' w.heap.size (fun k_ => some k_ ≠ (v1_ : Value).ownBlock) v0_ r1 ∧ Kd.R KI 3 w' w.heap.size (fun k_ => some k_ ≠ (v0_ : Value).ownBlock) v1_ r2 ∧ Below w.heap.size w w' := by
  have hm : l0.length ≤ 9223372036854775807 := hr0.2.1
  have HR0 := Aside0.mk hr0
  have HC0 := Aside0.mk hc0
  have hu32 := Try.underlying32
  have mixed := mixedT
  clear hr0 hc0
  unfold span_stabbed.f stabR at h
  injection h with h
  by_cases h0 : listR l0 = 0
  · rw [if_pos h0] at h
    injection h with h1 h2
    injection h2 with h2 h3
    subst h3
    have hlen := (listR_good h0).1
    have HT := Aside0.mk (listed_f l0)
    rw [h0] at HT
    obtain ⟨O, hO⟩ : ∃ O, O = byL (kHi l0) l0.length := ⟨_, rfl⟩
    have hOl : O.length = l0.length := by rw [hO]; exact byL_len _ _
    have HOL := Aside0.mk hOl
    have HOI := Aside0.mk (show ∀ k : Nat, k < l0.length → 0 ≤ rd O (k : Int) ∧ rd O (k : Int) < (l0.length : Int) from fun k hk => by rw [hO]; exact byL_in _ _ k hk)
    rw [← hO] at h1 h2
    have HBY := Aside0.mk (fun W hr => by_c 97 (fun s => s.f1) (enters_of Try.func97 (by kernel_rfl) rfl) key97 A0 c0 l0 W hr (by omega))
    rw [show byL (kfS (fun s => s.f1) l0) l0.length = O from hO.symm] at HBY
    have H1 := Aside0.mk h1
    have H2 := Aside0.mk h2
    clear hO h1 h2 h0 hOl
    go_enter Try.func79, Try.ntmps79
    go_wp2_with (first | (go_at_call 64; (with_reducible refine (span_listed.calls _ _ l0 0 _ HR0.out HC0.out HT.out).mono ?_); rintro e w1 ⟨rfl, hb1⟩; have HB1 := Aside0.mk hb1; clear hb1) | (go_at_call 80; (with_reducible refine (HBY.out _ (Kd.C_below HR0.out HB1.out)).mono ?_); rintro e w2 ⟨v, rfl, hr2, hb2⟩; obtain ⟨A2, c2, e2⟩ := Kd.R_slice hr2; subst e2; have HB2 := Aside0.mk (below_then HB1.out HB1.out.size hb2); have HR2 := Aside0.mk hr2; clear hb2 hr2 HB1))
    go_loopg [2, 3, 17] l0.length (fun gg v2 v3 v17 wr => ∃ kk : Nat, kk ≤ l0.length ∧ l0.length - kk ≤ gg ∧ v17 = .int .i64 kk ∧ Aside0 (Below w2.heap.size w2 wr) ∧ Aside0 (Kd.R KI 3 wr w2.heap.size (fun k => some k ≠ v3.ownBlock) v2 (stabF l0 (O.take kk)).1) ∧ Aside0 (Kd.R KI 3 wr w2.heap.size (fun k => some k ≠ v2.ownBlock) v3 (stabF l0 (O.take kk)).2))
    case atStart => exact ⟨0, Nat.zero_le _, by omega, rfl, ⟨Below.refl _ _⟩, ⟨by simpa [stabF] using Kd.R_nil _ _ _ _ _⟩, ⟨by simpa [stabF] using Kd.R_nil _ _ _ _ _⟩⟩
    case round =>
      obtain ⟨kk, hkk, hg, rfl, HBr, HP, HQ⟩ := hrel
      by_cases hlt : kk < l0.length
      · have hltz : (kk : Int) < (O.length : Int) := by have := HOL.out; omega
        obtain ⟨i0, i1⟩ := HOI.out kk hlt
        have HST := Aside0.mk (stabF_succ l0 O kk (by have := HOL.out; omega))
        have hl2 := stabF_len l0 O kk (by have := HOL.out; omega)
        generalize hst : stabF l0 (O.take kk) = st at HP HQ HST hl2
        clear hst
        obtain ⟨P, Q⟩ := st
        have HPL := Aside0.mk (show P.length ≤ 128 ∧ Q.length ≤ 128 by simp only at hl2; omega)
        clear hl2
        simp only at HP HQ
        obtain ⟨A3, c3, e3⟩ := Kd.R_slice HP.out
        obtain ⟨A4, c4, e4⟩ := Kd.R_slice HQ.out
        subst e3 e4
        obtain ⟨ao, e, ho0⟩ := Kd.at_int (Kd.C_below (Kd.R_reads' HR2.out).2.2 HBr.out) (kk : Int) (by omega) hltz
        subst e
        rw [Int.toNat_natCast] at ho0
        generalize hi : rd O (kk : Int) = i at *
        have HI := Aside0.mk hi
        clear hi
        obtain ⟨ad, e, hx0, hx1⟩ := at_T32 (Kd.C_below (Kd.C_below HR0.out HB2.out) HBr.out) i i0 i1
        subst e
        have HS := Aside0.mk (show rd_T32 l0 i = l0.getD i.toNat z32 from rfl)
        generalize hs : rd_T32 l0 i = s at hx0 hx1 HS
        clear hs
        have yes : (P = [] ∨ P.getLastD 0 < s.f0) → stabF l0 (O.take (kk + 1)) = (P ++ [wrap64 (s.f1 - 1)], Q ++ [i]) := fun hc => by
          rw [HST.out]
          unfold stabS
          rw [← HS.out, if_pos hc]
        have no : ¬ (P = [] ∨ P.getLastD 0 < s.f0) → stabF l0 (O.take (kk + 1)) = (P, Q) := fun hc => by
          rw [HST.out]
          unfold stabS
          rw [← HS.out, if_neg hc]
        have YES := Aside0.mk yes
        have NO := Aside0.mk no
        clear yes no HST HBY
        by_cases hP0 : P = []
        · have HST := Aside0.mk (YES.out (.inl hP0))
          have hn0 : ((P.length : Int) == 0) = true := by rw [hP0]; rfl
          clear hP0
          go_wp2
          go_quiet (fail)
          have HBr' := Aside0.mk (pw_below_drewN HBr.out nq)
          have HP' := Aside0.mk (Kd.R_drewN HP.out nq)
          have HQ' := Aside0.mk (Kd.R_drewN HQ.out nq)
          have hx1' := pw_cell_below (pw_below_drewN (Below.refl _ _) nq) hx1
          clear HBr HP HQ hx0 hx1 ho0
          generalize wr.drewN nq = w3 at HBr' HP' HQ' hx1' ⊢
          have HBr := HBr'
          have HP := HP'
          have HQ := HQ'
          clear HBr' HP' HQ'
          clear hn0
          go_wp2_with (first
            | (at_builtin; refine Kd.R_append (Kd.int .i64) (w0 := w2) w2.heap.size rfl (.tmp 38) (.tmp 45) 33 3 (.int .i64 0) 8 rfl Try.underlying33 info3 rfl (by decide) (by omega) _ P (wrap64 (s.f1 - 1)) [.int .i64 (wrap64 (s.f1 - 1))] (fun k => some k ≠ (Value.slice A4 Q.length c4).ownBlock) (fun _ => False) rfl rfl ?aP (fun _ hk => hk.elim) ?aF ?aO ?aB ?aS ?aL ?_; (case aP => exact rfl); (case aF => exact Kd.fresh' (Kd.R_lt HQ.out)); (case aO => exact HP.out); (case aB => exact HBr.out); (case aS => exact HBr.out.size); (case aL => (have := HPL.out; omega)); intro v5 w5 ho5 hb5 hg5 hat5; obtain ⟨A5, c5, e5⟩ := Kd.R_slice ho5; have HQ5 := Aside0.mk (Kd.R_after (ok := fun _ => True) (Kd.R_mono HQ.out (fun _ hk => ⟨trivial, hk⟩)) hg5 hat5); subst e5; have HP5 := Aside0.mk ho5; have HB5 := Aside0.mk hb5; clear ho5 hb5 hg5 hat5)
            | (at_builtin; refine Kd.R_append (Kd.int .i64) (w0 := w2) w2.heap.size rfl (.tmp 47) (.tmp 49) 33 3 (.int .i64 0) 8 rfl Try.underlying33 info3 rfl (by decide) (by omega) _ Q i [.int .i64 i] (fun k => some k ≠ (Value.slice A5 (P ++ [wrap64 (s.f1 - 1)]).length c5).ownBlock) (fun _ => False) rfl rfl ?aP (fun _ hk => hk.elim) ?aF ?aO ?aB ?aS ?aL ?_; (case aP => exact rfl); (case aF => exact Kd.fresh' (Kd.R_lt HP5.out)); (case aO => exact Kd.R_mono HQ5.out (fun _ hk => hk.2)); (case aB => exact HB5.out); (case aS => exact HB5.out.size); (case aL => (have := HPL.out; omega)); intro v6 w6 ho6 hb6 hg6 hat6; obtain ⟨A6, c6, e6⟩ := Kd.R_slice ho6; have HP6 := Aside0.mk (Kd.R_after (ok := fun _ => True) (Kd.R_mono HP5.out (fun _ hk => ⟨trivial, hk⟩)) hg6 hat6); subst e6; have HQ6 := Aside0.mk ho6; have HB6 := Aside0.mk hb6; clear ho6 hb6 hg6 hat6))
          go_roundg (l0.length - (kk + 1))
          case measure => omega
          case rel =>
            have hst := HST.out
            have eP : (P ++ [wrap64 (s.f1 - 1)]).length = P.length + 1 := by simp
            have eQ : (Q ++ [i]).length = Q.length + 1 := by simp
            have hp6 := HP6.out
            have hq6 := HQ6.out
            rw [eP] at hp6 hq6
            rw [eQ] at hp6 hq6
            exact ⟨kk + 1, by omega, by omega, by go_num, HB6, ⟨by rw [hst]; exact Kd.R_mono hp6 (fun _ hk => hk.2)⟩, ⟨by rw [hst]; exact hq6⟩⟩
        · have hpos : 0 < P.length := List.length_pos_iff.2 hP0
          have hn0 : ((P.length : Int) == 0) = false := by simpa using hP0
          obtain ⟨m1, hm1⟩ : ∃ m1, m1 + 1 = P.length := ⟨P.length - 1, by omega⟩
          have hpm : (P.length : Int) - 1 = (m1 : Int) := by omega
          have hw1 : IntKind.i64.wrap ((m1 : Int)) = (m1 : Int) := by rw [IntKind.wrap_i64]; have := HPL.out; omega
          have hp1 : (m1 : Int) < (P.length : Int) := by omega
          obtain ⟨ap, e, hq0⟩ := Kd.at_int (Kd.R_reads' HP.out).2.2 (m1 : Int) (by omega) hp1
          subst e
          have hq1 : rd P (m1 : Int) = P.getLastD 0 := by
            unfold rd
            rw [Int.toNat_natCast, List.getLastD_eq_getLast?, List.getLast?_eq_getElem?, List.getD_eq_getElem?_getD, ← hm1, Nat.add_sub_cancel]
          rw [hq1, Int.toNat_natCast] at hq0
          clear hm1
          generalize P.getLastD 0 = q at hq0 YES NO
          clear hq1
          by_cases hlq : q < s.f0
          · have HST := Aside0.mk (YES.out (.inr hlq))
            go_wp2
            go_quiet (fail)
            clear hq0
            have HBr' := Aside0.mk (pw_below_drewN HBr.out nq)
            have HP' := Aside0.mk (Kd.R_drewN HP.out nq)
            have HQ' := Aside0.mk (Kd.R_drewN HQ.out nq)
            have hx1' := pw_cell_below (pw_below_drewN (Below.refl _ _) nq) hx1
            clear HBr HP HQ hx0 hx1 ho0
            generalize wr.drewN nq = w3 at HBr' HP' HQ' hx1' ⊢
            have HBr := HBr'
            have HP := HP'
            have HQ := HQ'
            clear HBr' HP' HQ'
            clear hn0 hw1 hpm hp1
            go_wp2_with (first
              | (at_builtin; refine Kd.R_append (Kd.int .i64) (w0 := w2) w2.heap.size rfl (.tmp 38) (.tmp 45) 33 3 (.int .i64 0) 8 rfl Try.underlying33 info3 rfl (by decide) (by omega) _ P (wrap64 (s.f1 - 1)) [.int .i64 (wrap64 (s.f1 - 1))] (fun k => some k ≠ (Value.slice A4 Q.length c4).ownBlock) (fun _ => False) rfl rfl ?aP (fun _ hk => hk.elim) ?aF ?aO ?aB ?aS ?aL ?_; (case aP => exact rfl); (case aF => exact Kd.fresh' (Kd.R_lt HQ.out)); (case aO => exact HP.out); (case aB => exact HBr.out); (case aS => exact HBr.out.size); (case aL => (have := HPL.out; omega)); intro v5 w5 ho5 hb5 hg5 hat5; obtain ⟨A5, c5, e5⟩ := Kd.R_slice ho5; have HQ5 := Aside0.mk (Kd.R_after (ok := fun _ => True) (Kd.R_mono HQ.out (fun _ hk => ⟨trivial, hk⟩)) hg5 hat5); subst e5; have HP5 := Aside0.mk ho5; have HB5 := Aside0.mk hb5; clear ho5 hb5 hg5 hat5)
              | (at_builtin; refine Kd.R_append (Kd.int .i64) (w0 := w2) w2.heap.size rfl (.tmp 47) (.tmp 49) 33 3 (.int .i64 0) 8 rfl Try.underlying33 info3 rfl (by decide) (by omega) _ Q i [.int .i64 i] (fun k => some k ≠ (Value.slice A5 (P ++ [wrap64 (s.f1 - 1)]).length c5).ownBlock) (fun _ => False) rfl rfl ?aP (fun _ hk => hk.elim) ?aF ?aO ?aB ?aS ?aL ?_; (case aP => exact rfl); (case aF => exact Kd.fresh' (Kd.R_lt HP5.out)); (case aO => exact Kd.R_mono HQ5.out (fun _ hk => hk.2)); (case aB => exact HB5.out); (case aS => exact HB5.out.size); (case aL => (have := HPL.out; omega)); intro v6 w6 ho6 hb6 hg6 hat6; obtain ⟨A6, c6, e6⟩ := Kd.R_slice ho6; have HP6 := Aside0.mk (Kd.R_after (ok := fun _ => True) (Kd.R_mono HP5.out (fun _ hk => ⟨trivial, hk⟩)) hg6 hat6); subst e6; have HQ6 := Aside0.mk ho6; have HB6 := Aside0.mk hb6; clear ho6 hb6 hg6 hat6))
            go_roundg (l0.length - (kk + 1))
            case measure => omega
            case rel =>
              have hst := HST.out
              have eP : (P ++ [wrap64 (s.f1 - 1)]).length = P.length + 1 := by simp
              have eQ : (Q ++ [i]).length = Q.length + 1 := by simp
              have hp6 := HP6.out
              have hq6 := HQ6.out
              rw [eP] at hp6 hq6
              rw [eQ] at hp6 hq6
              exact ⟨kk + 1, by omega, by omega, by go_num, HB6, ⟨by rw [hst]; exact Kd.R_mono hp6 (fun _ hk => hk.2)⟩, ⟨by rw [hst]; exact hq6⟩⟩
          · have HST := Aside0.mk (NO.out (fun hc => hc.elim hP0 hlq))
            clear hP0
            go_wp2
            go_quiet (fail)
            have HBr' := Aside0.mk (pw_below_drewN HBr.out nq)
            have HP' := Aside0.mk (Kd.R_drewN HP.out nq)
            have HQ' := Aside0.mk (Kd.R_drewN HQ.out nq)
            go_wp2
            go_roundg (l0.length - (kk + 1))
            case measure => omega
            case rel =>
              have hst := HST.out
              exact ⟨kk + 1, by omega, by omega, by go_num, HBr', ⟨by rw [hst]; exact HP'.out⟩, ⟨by rw [hst]; exact HQ'.out⟩⟩
      · have hltz : ¬ (kk : Int) < (O.length : Int) := by have := HOL.out; omega
        go_wp2
        have hk : O.take kk = O := List.take_of_length_le (by have := HOL.out; omega)
        have hp := HP.out
        have hq := HQ.out
        rw [hk] at hp hq
        rw [H1.out] at hp
        rw [H2.out] at hq
        obtain ⟨A3, c3, e3⟩ := Kd.R_slice hp
        obtain ⟨A4, c4, e4⟩ := Kd.R_slice hq
        subst e3 e4
        go_ret3
        exact ⟨_, _, rfl, Kd.R_lower hp HB2.out.size, Kd.R_lower hq HB2.out.size, below_then HB2.out HB2.out.size HBr.out⟩
  · rw [if_neg h0] at h
    injection h with h1 h2
    injection h2 with h2 h3
    subst h1 h2
    have HT := Aside0.mk (listed_f l0)
    rw [h3] at HT h0
    clear h3
    have hne : (r3 == 0) = false := by simpa using h0
    go_enter Try.func79, Try.ntmps79
    go_wp2_with (go_at_call 64; (with_reducible refine (span_listed.calls _ _ l0 r3 _ HR0.out HC0.out HT.out).mono ?_); rintro e w1 ⟨rfl, hb1⟩)
    go_ret3
    exact ⟨_, _, rfl, Kd.R_nil _ _ _ _ _, Kd.R_nil _ _ _ _ _, hb1⟩
end Go.Proofs.Ytningpmoojnomaa.Pr
end
section
namespace Go.Proofs.Ytningpmoojnomaa.Pr
open Go.RowKit Go.Proofs.YtningpmoojnomaaW.PrintWords Go.Proofs.YtningpmoojnomaaW.PrintLast Go.Proofs.YtningpmoojnomaaW.PrintMore
set_option linter.unusedVariables false
set_option linter.unusedSimpArgs false
def spL (l : List S32) (i : Int) : S32 := l.getD i.toNat z32
/-- What is known of the points and the spans at which they were chosen, some spans having been looked at. -/
structure Pts (l : List S32) (done P D : List Int) : Prop where
  len : P.length = D.length
  at_ : ∀ j, ∀ h : j < P.length, P[j] = (spL l (D[j]'(by omega))).f1 - 1
  low : ∀ j k, ∀ h : j < k, ∀ hk : k < D.length, P[j]'(by omega) < (spL l D[k]).f0
  sub : ∀ x ∈ D, x ∈ done
  met : ∀ x ∈ done, ∃ p ∈ P, (spL l x).f0 ≤ p ∧ p < (spL l x).f1
theorem pts_nil (l : List S32) : Pts l [] [] [] := by
  refine ⟨rfl, ?_, ?_, ?_, ?_⟩
  · intro j h; simp at h
  · intro j k h hk; simp at hk
  · intro x hx; cases hx
  · intro x hx; cases hx
theorem getLastD_at (P : List Int) (h : P ≠ []) : P.getLastD 0 = P[P.length - 1]'(by have := List.length_pos_iff.2 h; omega) := by
  rw [List.getLastD_eq_getLast?, List.getLast?_eq_getElem?, List.getElem?_eq_getElem (by have := List.length_pos_iff.2 h; omega)]
  rfl
theorem pts_step (l : List S32) (done P D : List Int) (x : Int) (h : Pts l done P D) (hg : ∀ y, y ∈ done ∨ y = x → -1099511627776 ≤ (spL l y).f0 ∧ (spL l y).f0 < (spL l y).f1 ∧ (spL l y).f1 ≤ 1099511627776) (ho : ∀ y ∈ done, (spL l y).f1 ≤ (spL l x).f1) :
    Pts l (done ++ [x]) (stabS l (P, D) x).1 (stabS l (P, D) x).2 := by
  obtain ⟨gx0, gx1, gx2⟩ := hg x (.inr rfl)
  have hw : wrap64 ((spL l x).f1 - 1) = (spL l x).f1 - 1 := by unfold wrap64; omega
  unfold stabS
  simp only
  change Pts l _ (if P = [] ∨ P.getLastD 0 < (spL l x).f0 then (P ++ [wrap64 ((spL l x).f1 - 1)], D ++ [x]) else (P, D)).1 (if P = [] ∨ P.getLastD 0 < (spL l x).f0 then (P ++ [wrap64 ((spL l x).f1 - 1)], D ++ [x]) else (P, D)).2
  by_cases hc : P = [] ∨ P.getLastD 0 < (spL l x).f0
  · rw [if_pos hc, hw]
    refine ⟨by simp [h.len], fun j hj => ?_, fun j k hjk hk => ?_, fun y hy => ?_, fun y hy => ?_⟩
    · simp only [List.length_append, List.length_singleton] at hj
      by_cases hlt : j < P.length
      · rw [List.getElem_append_left hlt, h.at_ j hlt]
        simp only
        rw [List.getElem_append_left (by have := h.len; omega)]
      · have e : j = P.length := by omega
        subst e
        rw [List.getElem_append_right (Nat.le_refl _)]
        simp only [h.len, Nat.sub_self, List.getElem_singleton]
        rw [List.getElem_append_right (Nat.le_refl _)]
        simp
    · simp only [List.length_append, List.length_singleton] at hk
      have hl := h.len
      by_cases hlt : k < D.length
      · simp only
        rw [List.getElem_append_left (show j < P.length by omega), List.getElem_append_left hlt]
        exact h.low j k hjk hlt
      · have e : k = D.length := by omega
        subst e
        simp only
        rw [List.getElem_append_left (show j < P.length by omega), List.getElem_append_right (Nat.le_refl _)]
        simp only [Nat.sub_self, List.getElem_singleton]
        have hP : P ≠ [] := fun he => by rw [he] at hl; simp at hl; omega
        rcases hc with hc | hc
        · exact absurd hc hP
        · rw [getLastD_at P hP] at hc
          by_cases hj : j = P.length - 1
          · subst hj; exact hc
          · have h1 := h.low j (P.length - 1) (by omega) (by omega)
            have h2 := h.at_ (P.length - 1) (by omega)
            have h3 := hg (D[P.length - 1]'(by omega)) (.inl (h.sub _ (List.getElem_mem _)))
            omega
    · rcases List.mem_append.1 hy with hy | hy
      · exact List.mem_append_left _ (h.sub y hy)
      · exact List.mem_append_right _ hy
    · rcases List.mem_append.1 hy with hy | hy
      · obtain ⟨p, hp, h1⟩ := h.met y hy
        exact ⟨p, List.mem_append_left _ hp, h1⟩
      · rw [List.mem_singleton] at hy
        subst hy
        exact ⟨(spL l y).f1 - 1, List.mem_append_right _ (List.mem_singleton.2 rfl), by omega, by omega⟩
  · rw [if_neg hc]
    refine ⟨h.len, h.at_, h.low, fun y hy => List.mem_append_left _ (h.sub y hy), fun y hy => ?_⟩
    rcases List.mem_append.1 hy with hy | hy
    · exact h.met y hy
    · rw [List.mem_singleton] at hy
      subst hy
      have hP : P ≠ [] := fun he => hc (.inl he)
      have hq : ¬ P.getLastD 0 < (spL l y).f0 := fun he => hc (.inr he)
      have hpos := List.length_pos_iff.2 hP
      rw [getLastD_at P hP] at hq
      have hl := h.len
      have h2 := h.at_ (P.length - 1) (by omega)
      have h3 := ho (D[P.length - 1]'(by omega)) (h.sub _ (List.getElem_mem _))
      exact ⟨P[P.length - 1], List.getElem_mem _, by omega, by omega⟩
theorem pts_fold (l : List S32) (O : List Int) (hO : O.Pairwise (Ord (kHi l))) (hg : ∀ y ∈ O, -1099511627776 ≤ (spL l y).f0 ∧ (spL l y).f0 < (spL l y).f1 ∧ (spL l y).f1 ≤ 1099511627776) : ∀ k, k ≤ O.length → Pts l (O.take k) (stabF l (O.take k)).1 (stabF l (O.take k)).2
  | 0, _ => by simpa [stabF] using pts_nil l
  | k + 1, h => by
    have ih := pts_fold l O hO hg k (by omega)
    have hk : k < O.length := by omega
    have er : rd O (k : Int) = O[k] := by simp [rd, List.getD_eq_getElem?_getD, List.getElem?_eq_getElem hk]
    rw [stabF_succ l O k hk, List.take_succ_eq_append_getElem hk, er]
    refine pts_step l _ _ _ _ ih (fun y hy => ?_) (fun y hy => ?_)
    · rcases hy with hy | rfl
      · exact hg y (List.mem_of_mem_take hy)
      · exact hg _ (List.getElem_mem hk)
    · obtain ⟨j, hj, rfl⟩ := List.mem_iff_getElem.1 hy
      rw [List.length_take] at hj
      rw [List.getElem_take]
      have := (List.pairwise_iff_getElem.1 hO) j k (by omega) hk (by omega)
      simp only [Ord, kHi, kfS] at this
      unfold spL
      omega
theorem spL_good {l : List S32} (hg : ∀ s ∈ l, -1099511627776 ≤ s.f0 ∧ s.f0 < s.f1 ∧ s.f1 ≤ 1099511627776) (i : Int) (h0 : 0 ≤ i) (h1 : i < (l.length : Int)) : -1099511627776 ≤ (spL l i).f0 ∧ (spL l i).f0 < (spL l i).f1 ∧ (spL l i).f1 ≤ 1099511627776 := by
  have hi : i.toNat < l.length := by omega
  unfold spL
  rw [List.getD_eq_getElem?_getD, List.getElem?_eq_getElem hi]
  exact hg _ (List.getElem_mem hi)
theorem byL_mem (kf : Int → Int) (n : Nat) (x : Int) : x ∈ byL kf n ↔ 0 ≤ x ∧ x < (n : Int) := by
  rw [(byL_perm kf n).mem_iff, irange_mem]
  simp
end Go.Proofs.Ytningpmoojnomaa.Pr
end
section
namespace Go.Proofs.Ytningpmoojnomaa.Pr
open Go.Shelf Go.RowKit Go.Proofs.YtningpmoojnomaaW.PrintWords Go.Proofs.YtningpmoojnomaaW.PrintLast Go.Proofs.YtningpmoojnomaaW.PrintMore
set_option linter.unusedVariables false
set_option linter.unusedSimpArgs false
/-- slices.IndexFunc at []int, the predicate reading alone. -/
def PredI (g : Nat) (lb : Array Value) (p : Int → Bool) (w : World) : Prop := ∀ x : Int, Calls Try.prog g (#[.int .i64 x] ++ lb) w fun e w' => e = .returned (.bool (p x)) ∧ w' = w
set_option maxHeartbeats 1000000 in
set_option maxRecDepth 100000 in
theorem indexFunc_Int (g : Nat) (lb : Array Value) (p : Int → Bool) (eg : ∀ args w, (callFunc g args).run Try.prog w = .ok (.enter g args) w) (A0 : Option Addr) (c0 : Nat) (l0 : List Int) (w : World) (hr0 : Kd.C KI w A0 l0.length l0) (hp : PredI g lb p w) :
    Calls Try.prog 82 #[.slice A0 l0.length c0, .func (.func g) #[] lb] w fun e w' => e = .returned (.int .i64 (idxS p l0)) ∧ w' = w := by
  have hm : l0.length ≤ 9223372036854775807 := hr0.2.1
  have HR0 := Aside0.mk hr0
  have HP := Aside0.mk hp
  have HM := Aside0.mk hm
  clear hr0 hp hm
  go_enter Try.func82, Try.ntmps82
  go_wp2
  go_loopg [5, 8] l0.length (fun gg _ s8 wr => ∃ kk : Nat, kk ≤ l0.length ∧ l0.length - kk ≤ gg ∧ s8 = .int .i64 kk ∧ wr = w ∧ Aside0 (∀ j, j < kk → p (l0.getD j 0) = false))
  case atStart => exact ⟨0, Nat.zero_le _, by omega, rfl, rfl, ⟨fun j hj => absurd hj (Nat.not_lt_zero _)⟩⟩
  case round =>
    obtain ⟨kk, hkk, hg, rfl, rfl, HA⟩ := hrel
    have hm2 := HM.out
    by_cases hlt : kk < l0.length
    · have hltz : (kk : Int) < (l0.length : Int) := by omega
      obtain ⟨ad, e, hx0⟩ := Kd.at_int HR0.out (kk : Int) (by omega) hltz
      subst e
      have er : rd l0 (kk : Int) = l0.getD kk 0 := by unfold rd; rw [Int.toNat_natCast]
      rw [er, Int.toNat_natCast] at hx0
      have hcall := HP.out (l0.getD kk 0)
      clear er
      generalize hy : l0.getD kk 0 = y at hx0 hcall
      have HY := Aside0.mk hy
      clear hy
      cases hq : p y with
      | true =>
        rw [hq] at hcall
        have HQ := Aside0.mk hq
        clear hq
        go_wp2_with fail
        refine hcall.mono ?_
        rintro e w' ⟨rfl, rfl⟩
        go_wp2
        go_ret
        exact ⟨by rw [idxS_hit p l0 0 kk hlt (by rw [HY.out]; exact HQ.out) HA.out]; rfl, rfl⟩
      | false =>
        rw [hq] at hcall
        have HQ := Aside0.mk hq
        clear hq
        go_wp2_with fail
        refine hcall.mono ?_
        rintro e w' ⟨rfl, rfl⟩
        go_wp2
        go_roundg (l0.length - (kk + 1))
        case measure => omega
        case rel =>
          refine ⟨kk + 1, by omega, by omega, by go_num, rfl, ⟨fun j hj => ?_⟩⟩
          by_cases e : j = kk
          · subst e
            rw [HY.out]; exact HQ.out
          · exact HA.out j (by omega)
    · have hltz : ¬ (kk : Int) < (l0.length : Int) := by omega
      go_wp2
      go_ret
      exact ⟨by rw [idxS_miss p l0 0 (fun j hj => HA.out j (by omega))]; rfl, rfl⟩
/-- One step: the trays so far, the ends of the trays. -/
def trS (l : List S32) (st : List Int × List Int) (i : Int) : List Int × List Int :=
  let t := idxS (fun hi => decide (hi ≤ (l.getD i.toNat z32).f0)) st.2
  if t < 0 then (st.1.set i.toNat (st.2.length : Int), st.2 ++ [(l.getD i.toNat z32).f1]) else (st.1.set i.toNat t, st.2.set t.toNat (l.getD i.toNat z32).f1)
def trF (l : List S32) (o : List Int) : List Int × List Int := o.foldl (trS l) (List.replicate l.length 0, [])
def trR (l : List S32) : List Int × Int × Int := if listR l = 0 then ((trF l (byL (kLo l) l.length)).1, ((trF l (byL (kLo l) l.length)).2.length : Int), 0) else ([], 0, listR l)
def span_Trays.f (l0 : List S32) : Option (List Int × Int × Int) := some (trR l0)
theorem trF_succ (l : List S32) (o : List Int) (k : Nat) (h : k < o.length) : trF l (o.take (k + 1)) = trS l (trF l (o.take k)) (rd o (k : Int)) := by
  unfold trF
  rw [List.take_succ_eq_append_getElem h, List.foldl_append]
  simp [rd, List.getD_eq_getElem?_getD, List.getElem?_eq_getElem h]
theorem trS_len (l : List S32) (st : List Int × List Int) (i : Int) : (trS l st i).1.length = st.1.length ∧ (trS l st i).2.length ≤ st.2.length + 1 := by
  unfold trS
  simp only
  split <;> simp
theorem trF_len (l : List S32) (o : List Int) : ∀ k, k ≤ o.length → (trF l (o.take k)).1.length = l.length ∧ (trF l (o.take k)).2.length ≤ k
  | 0, _ => by simp [trF]
  | k + 1, h => by
    have := trF_len l o k (by omega)
    rw [trF_succ l o k h]
    have := trS_len l (trF l (o.take k)) (rd o (k : Int))
    omega
theorem grownBy_setCell2 (W : World) (b o : Nat) (v : Value) : W.grownBy (W.setCell ⟨b, o, none⟩ v) (some b) :=
  ⟨rfl, rfl, rfl, (KeepsWalks.setCell W _ v).size, fun k _ hk => Below.heap_setCell _ _ _ k (fun e => hk (by rw [e]))⟩
theorem grownBy_drew (W : World) : W.grownBy W.drew none := ⟨rfl, rfl, rfl, Nat.le_refl _, fun _ _ _ => rfl⟩
theorem idxS_lt {α : Type} (p : α → Bool) (l : List α) : -1 ≤ idxS p l ∧ idxS p l < (l.length : Int) ∧ (¬ idxS p l = -1 → 0 ≤ idxS p l) := by
  unfold idxS
  rcases h : l.findIdx? p with _ | i
  · simp
    omega
  · obtain ⟨hi, _⟩ := List.findIdx?_eq_some_iff_getElem.1 h
    simp
    omega
set_option maxHeartbeats 4000000 in
set_option maxRecDepth 100000 in
theorem pred83 (Bl Bi : Nat) (A0 : Option Addr) (c0 : Nat) (l0 : List S32) (i : Int) (i0 : 0 ≤ i) (i1 : i < (l0.length : Int)) (W : World) (hl : Kd.C k32 W A0 l0.length l0) (hb1 : W.cell? ⟨Bl, 0, none⟩ = some (.slice A0 l0.length c0)) (hb2 : W.cell? ⟨Bi, 0, none⟩ = some (.int .i64 i)) :
    PredI 83 #[.pointer (some ⟨Bl, 0, none⟩), .pointer (some ⟨Bi, 0, none⟩)] (fun hi => decide (hi ≤ (l0.getD i.toNat z32).f0)) W := by
  intro x
  have hu32 := Try.underlying32
  obtain ⟨ad, e, hx0, hx1⟩ := at_T32 hl i i0 i1
  subst e
  change W.cell? _ = some (.int .i64 (l0.getD i.toNat z32).f0) at hx0
  generalize (l0.getD i.toNat z32).f0 = lo at hx0 ⊢
  clear hx1 hl
  simp only [List.push_toArray, List.append_toArray, List.nil_append, List.cons_append]
  go_enter Try.func83, Try.ntmps83
  go_wp2
  go_ret
  exact ⟨rfl, rfl⟩
set_option maxHeartbeats 8000000 in
set_option maxRecDepth 100000 in
theorem span_Trays.calls (A0 : Option Addr) (c0 : Nat) (l0 : List S32) (r1 : List Int) (r2 r3 : Int) (w : World) (hr0 : Kd.C k32 w A0 l0.length l0) (hc0 : l0.length ≤ c0) (h : span_Trays.f l0 = some (r1, r2, r3)) :
    Calls Try.prog 45 #[.slice A0 l0.length c0] w fun e w' => ∃ v0_ : Value, e = .returned (.tuple #[v0_, .int .i64 r2, .int .i64 r3]) ∧ Kd.R KI 3 w' w.heap.size (fun _ => True) v0_ r1 ∧ Below w.heap.size w w' := by
  have hm : l0.length ≤ 9223372036854775807 := hr0.2.1
  have HR0 := Aside0.mk hr0
  have HC0 := Aside0.mk hc0
  have hu32 := Try.underlying32
  have mixed := mixedT
  clear hr0 hc0
  unfold span_Trays.f trR at h
  injection h with h
  have hB0 : Below w.heap.size w (w.alloc (.cells #[.slice A0 l0.length c0] 22)) := below_alloc (Below.refl _ _) _
  have HB0 := Aside0.mk hB0
  clear hB0
  by_cases h0 : listR l0 = 0
  · rw [if_pos h0] at h
    injection h with h1 h2
    injection h2 with h2 h3
    subst h3
    have hlen := (listR_good h0).1
    have HT := Aside0.mk (listed_f l0)
    rw [h0] at HT
    obtain ⟨O, hO⟩ : ∃ O, O = byL (kLo l0) l0.length := ⟨_, rfl⟩
    have hOl : O.length = l0.length := by rw [hO]; exact byL_len _ _
    have HOL := Aside0.mk hOl
    have HOI := Aside0.mk (show ∀ k : Nat, k < l0.length → 0 ≤ rd O (k : Int) ∧ rd O (k : Int) < (l0.length : Int) from fun k hk => by rw [hO]; exact byL_in _ _ k hk)
    rw [← hO] at h1 h2
    have HBY := Aside0.mk (fun W hr => by_c 81 (fun s => s.f0) (enters_of Try.func81 (by kernel_rfl) rfl) key81 A0 c0 l0 W hr (by omega))
    rw [show byL (kfS (fun s => s.f0) l0) l0.length = O from hO.symm] at HBY
    have H1 := Aside0.mk h1
    have H2 := Aside0.mk h2
    clear hO h1 h2 h0 hOl
    go_enter Try.func45, Try.ntmps45
    go_wp2_with (first | (go_at_call 64; (with_reducible refine (span_listed.calls _ _ l0 0 _ (Kd.C_below HR0.out HB0.out) HC0.out HT.out).mono ?_); rintro e w1 ⟨rfl, hb1⟩; have HB1 := Aside0.mk (below_then HB0.out HB0.out.size hb1); have hcl : w1.cell? ⟨w.heap.size, 0, none⟩ = some (.slice A0 l0.length c0) := (hb1.cell (p := ⟨w.heap.size, 0, none⟩) (by simp)).trans (by simp); have hwl : w.heap.size < w1.heap.size := Nat.lt_of_lt_of_le (by simp) hb1.size; clear hb1) | ((with_reducible refine gate_dst (N := 18) rfl ?_); refine Kd.R_make (Kd.int .i64) _ 3 rfl (N := 18) rfl 33 _ _ rfl (l0.length : Int) rfl rfl Try.underlying33 (.int .i64 0) 8 info3 rfl (by decide) (by omega) 0 (ok := fun _ => True) (okp := fun _ => True) rfl (fun _ hk => hk) trivial (by omega) ?hl (Below.refl _ _) (Nat.le_refl _) ?_; (case hl => omega); intro v2 w2 ho2 hb2 hg2 hn2; clear hg2; obtain ⟨g, cap, e, hgb, hgl⟩ := make_form ho2 hn2; subst e; have HO := Aside0.mk ho2; have HB2 := Aside0.mk (below_then HB1.out HB1.out.size hb2); have HGB := Aside0.mk hgb; have hcl2 : w2.cell? ⟨w.heap.size, 0, none⟩ = some (.slice A0 l0.length c0) := (hb2.cell (p := ⟨w.heap.size, 0, none⟩) hwl).trans hcl; have hwl2 : w.heap.size < w2.heap.size := Nat.lt_of_lt_of_le hwl hb2.size; clear ho2 hb2 hn2 hgb hgl) | (go_at_call 80; (with_reducible refine (HBY.out _ (Kd.C_below HR0.out HB2.out)).mono ?_); rintro e w3 ⟨v, rfl, hr3, hb3⟩; obtain ⟨A2, c2, e2⟩ := Kd.R_slice hr3; subst e2; have HB3 := Aside0.mk (below_then HB2.out HB2.out.size hb3); have HR3 := Aside0.mk hr3; have HO3 := Aside0.mk (Kd.R_below HO.out hb3); have hcl3 : w3.cell? ⟨w.heap.size, 0, none⟩ = some (.slice A0 l0.length c0) := (hb3.cell (p := ⟨w.heap.size, 0, none⟩) hwl2).trans hcl2; have hwl3 : w.heap.size < w3.heap.size := Nat.lt_of_lt_of_le hwl2 hb3.size; clear hr3 hb3))
    simp only [List.length_replicate, Int.toNat_natCast] at HO3
    have HR3' := Aside0.mk (Kd.R_mono (Kd.R_bound HR3.out) (ok' := fun k => w2.heap.size ≤ k) (fun k hk => hk.2.1))
    have hgl2 : w1.heap.size ≤ g ∧ g < w2.heap.size := ⟨HGB.out, by have h0 := Kd.R_lt HO.out g rfl; exact h0⟩
    have HGW := Aside0.mk (show g < w3.heap.size from by have h0 := Kd.R_lt HO3.out g rfl; exact h0)
    have HOt := Aside0.mk (Kd.R_reok (ok := fun k => k = g) rfl HO3.out (fun k hk => by simp [Value.ownBlock] at hk; exact hk.symm))
    have HG2 := Aside0.mk hgl2
    have HCL := Aside0.mk hcl3
    have HWL := Aside0.mk (show w.heap.size < w1.heap.size from hwl)
    have HSP := Aside0.mk (Kd.C_below HR0.out HB3.out)
    clear hcl hcl2 hcl3 hwl hwl2 hwl3 hgl2 HO HO3 HR3 HB2 HB1 HBY HGB
    go_loopg [7, 22] l0.length (fun gg v7 v22 wr => ∃ kk : Nat, kk ≤ l0.length ∧ l0.length - kk ≤ gg ∧ v22 = .int .i64 kk ∧ Aside0 (w3.grownBy wr (some g)) ∧ Aside0 (Kd.R KI 3 wr w1.heap.size (fun k => k = g) (.slice (some ⟨g, 0, none⟩) l0.length cap) (trF l0 (O.take kk)).1) ∧ Aside0 (Kd.R KI 3 wr w3.heap.size (fun k => w3.heap.size ≤ k) v7 (trF l0 (O.take kk)).2))
    case atStart => exact ⟨0, Nat.zero_le _, by omega, rfl, ⟨World.grownBy.refl _ _⟩, ⟨by simpa [trF] using HOt.out⟩, ⟨by simpa [trF] using Kd.R_nil _ _ _ _ _⟩⟩
    case round =>
      clear HOt
      obtain ⟨kk, hkk, hg, rfl, HW, HP, HE⟩ := hrel
      have HRO := Aside0.mk (Kd.R_grown HR3'.out HW.out (fun k hk => fun he => by injection he with he; have := HG2.out; omega))
      by_cases hlt : kk < l0.length
      · have hltz : (kk : Int) < (O.length : Int) := by have := HOL.out; omega
        obtain ⟨i0, i1⟩ := HOI.out kk hlt
        have HST := Aside0.mk (trF_succ l0 O kk (by have := HOL.out; omega))
        have hl2 := trF_len l0 O kk (by have := HOL.out; omega)
        generalize hst : trF l0 (O.take kk) = st at HP HE HST hl2
        clear hst
        obtain ⟨P, E⟩ := st
        have HPL := Aside0.mk (show P.length = l0.length ∧ E.length ≤ 128 by simp only at hl2; omega)
        clear hl2
        simp only at HP HE
        obtain ⟨A4, c4, e4⟩ := Kd.R_slice HE.out
        subst e4
        obtain ⟨ao, e, ho0⟩ := Kd.at_int (Kd.R_reads' HRO.out).2.2 (kk : Int) (by omega) hltz
        subst e
        rw [Int.toNat_natCast] at ho0
        generalize hi : rd O (kk : Int) = i at *
        have HI := Aside0.mk hi
        clear hi
        have hspA : Kd.C k32 wr A0 l0.length l0 := by
          have hb : Below w.heap.size w wr := HB3.out.grown HW.out HB3.out.size (fun k hk => by cases hk; have := HG2.out; have := HWL.out; omega)
          exact Kd.C_below HR0.out hb
        have hclA : wr.cell? ⟨w.heap.size, 0, none⟩ = some (.slice A0 l0.length c0) := HW.out.cell HCL.out (by have := HG2.out; have := HWL.out; simp; omega)
        have HPR := Aside0.mk (pred83 w.heap.size wr.heap.size A0 c0 l0 i i0 i1 (wr.alloc (.cells #[.int .i64 i] 3)) (Kd.C_alloc hspA _) (pw_cell_below (below_alloc (Below.refl _ _) _) hclA) (by simp))
        obtain ⟨ad, e, hx0, hx1⟩ := at_T32 hspA i i0 i1
        subst e
        have HS := Aside0.mk (show rd_T32 l0 i = l0.getD i.toNat z32 from rfl)
        generalize hs : rd_T32 l0 i = s at hx0 hx1 HS
        clear hs
        obtain ⟨t, ht⟩ : ∃ t, t = idxS (fun hi => decide (hi ≤ (l0.getD i.toNat z32).f0)) E := ⟨_, rfl⟩
        have htb := idxS_lt (fun hi => decide (hi ≤ (l0.getD i.toNat z32).f0)) E
        rw [← ht] at htb
        have HIDX := Aside0.mk (indexFunc_Int 83 #[.pointer (some ⟨w.heap.size, 0, none⟩), .pointer (some ⟨wr.heap.size, 0, none⟩)] (fun hi => decide (hi ≤ (l0.getD i.toNat z32).f0)) (enters_of Try.func83 (by kernel_rfl) rfl) A4 c4 E (wr.alloc (.cells #[.int .i64 i] 3)) (Kd.C_alloc (Kd.R_reads' HE.out).2.2 _) HPR.out)
        rw [← ht] at HIDX
        have STEP := Aside0.mk (show trF l0 (O.take (kk + 1)) = if t < 0 then (P.set i.toNat (E.length : Int), E ++ [s.f1]) else (P.set i.toNat t, E.set t.toNat s.f1) by rw [HST.out, ht, HS.out]; rfl)
        have HPA := Aside0.mk (Kd.R_alloc HP.out (.cells #[.int .i64 i] 3))
        have HEA := Aside0.mk (Kd.R_alloc HE.out (.cells #[.int .i64 i] 3))
        have HWA := Aside0.mk (HW.out.trans (World.grownBy_alloc wr (.cells #[.int .i64 i] 3) (some g)))
        have HI0 := Aside0.mk ht
        have HEL := Aside0.mk (fun k hk => And.intro (Kd.R_lt HE.out k hk) (Kd.R_base HE.out k hk))
        have HADB := Aside0.mk (show (ad.add (i.toNat * 2)).block < w.heap.size from by
          obtain ⟨ad', e', hz0, _⟩ := at_T32 HR0.out i i0 i1
          injection e' with e'
          subst e'
          have h0 := World.block_lt_of_cell? w _ hz0
          exact h0)
        clear ht HST HPR HP HE hspA
        obtain ⟨wA, hwA⟩ : ∃ wA, wA = wr.alloc (.cells #[.int .i64 i] 3) := ⟨_, rfl⟩
        have hbi : wA.cell? ⟨wr.heap.size, 0, none⟩ = some (.int .i64 i) := by rw [hwA]; simp
        have hbl : wA.cell? ⟨w.heap.size, 0, none⟩ = some (.slice (some ad) l0.length c0) := by rw [hwA]; exact pw_cell_below (below_alloc (Below.refl _ _) _) hclA
        have hsx : wA.cell? ⟨(ad.add (i.toNat * 2)).block, (ad.add (i.toNat * 2)).off + 1, none⟩ = some (.int .i64 s.f1) := by rw [hwA]; exact pw_cell_below (below_alloc (Below.refl _ _) _) hx1
        have HBI := Aside0.mk hbi
        have HBL := Aside0.mk hbl
        have HSX := Aside0.mk hsx
        have hgb : g < wr.heap.size ∧ w.heap.size < g := by have h1 := HW.out.size; have h2 := HGW.out; have h3 := HG2.out; have h4 := HWL.out; omega
        rw [← hwA] at HIDX HPA HEA HWA
        have HWAE := Aside0.mk hwA
        clear hwA hbi hbl hsx hclA hx0 hx1 HW HRO
        by_cases htn : t = -1
        · subst htn
          have HST := Aside0.mk (show trF l0 (O.take (kk + 1)) = (P.set i.toNat (E.length : Int), E ++ [s.f1]) by rw [STEP.out, if_pos (by omega)])
          clear STEP htb
          go_wp2_with (first | (go_at_call 82; rw [← HWAE.out]; (with_reducible refine HIDX.out.mono ?_); rintro e w4 ⟨rfl, hw4⟩; subst hw4) | (at_builtin; refine Kd.R_append (Kd.int .i64) (w0 := w4) w3.heap.size rfl (.tmp 33) (.tmp 34) 33 3 (.int .i64 0) 8 rfl Try.underlying33 info3 rfl (by decide) (by omega) _ E 0 [.int .i64 0] (fun k => w3.heap.size ≤ k) (fun _ => False) rfl rfl ?aP (fun _ hk => hk.elim) ?aF ?aO ?aB ?aS ?aL ?_; (case aP => exact rfl); (case aF => (intro k hk; exact Nat.le_trans HWA.out.size hk)); (case aO => exact HEA.out); (case aB => exact Below.refl _ _); (case aS => exact HWA.out.size); (case aL => (have := HPL.out; omega)); intro v5 w5 ho5 hb5 hg5 hat5; obtain ⟨A5, c5, e5⟩ := Kd.R_slice ho5; subst e5; have HE5 := Aside0.mk ho5; have HW5 := Aside0.mk (HWA.out.andThen hg5 (fun j hj => .inl (HEL.out j hj).2)); have HP5 := Aside0.mk (Kd.R_grown HPA.out hg5 (fun k hk he => by have h1 := (HEL.out k he.symm).2; have h2 := HGW.out; omega)); have HBIX := Aside0.mk (hg5.cell HBI.out (fun he => by have h1 := (HEL.out _ he.symm).1; simp at h1)); have HBLX := Aside0.mk (hg5.cell HBL.out (fun he => by have h1 := (HEL.out _ he.symm).2; have h2 := HGW.out; simp at h1; omega)); have HSXX := Aside0.mk (hg5.cell HSX.out (fun he => by have h1 := (HEL.out _ he.symm).2; have h2 := HADB.out; have h3 := HB3.out.size; simp only at h1; omega)); clear ho5 hb5 hg5 hat5))
          obtain ⟨h, ch, eh, hb, hlh, _, _⟩ := Kd.R_form HE5.out (by simp)
          injection eh with eh1 eh2 eh3
          subst eh1 eh3
          obtain ⟨hx4, hf4⟩ := Kd.R_celln (0 : Int) HP5.out i i0 i1
          obtain ⟨hx5, hf5⟩ := Kd.R_celln (0 : Int) HE5.out (E.length : Int) (by omega) (by simp; try omega)
          rw [Int.toNat_natCast] at hx5 hf5
          have hne : h ≠ g := by have := HGW.out; omega
          have hx6 : (w5.setCell ⟨g, i.toNat, none⟩ (.int .i64 (E.length : Int))).cell? ⟨h, E.length, none⟩ = some (.int .i64 (rdOf 0 (E ++ [(0 : Int)]) (E.length : Int))) := (World.cell?_setCell_other _ _ _ _ (by intro e; simp only [Addr.mk.injEq] at e; exact hne e.1.symm)).trans hx5
          have HP7 := Aside0.mk (Kd.R_drew (Kd.R_grown (Kd.R_putn HP5.out i (E.length : Int)) (grownBy_setCell2 _ h E.length (Value.int .i64 s.f1)) (fun k hk => by rw [hk]; intro he; injection he with he; exact hne he.symm)))
          have HE7 := Aside0.mk (Kd.R_drew (Kd.R_putn (Kd.R_grown HE5.out (grownBy_setCell2 w5 g i.toNat (Value.int .i64 (E.length : Int))) (fun k hk => by intro he; injection he with he; have := HGW.out; omega)) (E.length : Int) s.f1))
          have HW7 := Aside0.mk (show w3.grownBy ((w5.setCell ⟨g, i.toNat, none⟩ (.int .i64 (E.length : Int))).setCell ⟨h, E.length, none⟩ (.int .i64 s.f1)).drew (some g) from ((HW5.out.andThen (grownBy_setCell2 _ g i.toNat _) (fun j hj => .inr hj)).andThen (grownBy_setCell2 _ h E.length _) (fun j hj => by injection hj with hj; subst hj; exact .inl hb)).andThen (grownBy_drew _) (fun j hj => by cases hj))
          rw [Int.toNat_natCast] at HE7
          have hbiX := HBIX.out
          have hblX := HBLX.out
          have hsxX := HSXX.out
          clear HP5 HE5 HW5 HBIX HBLX HSXX hne hb hlh
          go_wp2_with fail
          go_big_region
          clear hx4 hx5 hx6 hf4 hf5 hbiX hblX hsxX
          generalize ((w5.setCell ⟨g, i.toNat, none⟩ (.int .i64 (E.length : Int))).setCell ⟨h, E.length, none⟩ (.int .i64 s.f1)).drew = w9 at HP7 HE7 HW7 ⊢
          go_wp2
          go_roundg (l0.length - (kk + 1))
          case measure => omega
          case rel =>
            have hst := HST.out
            have eL : (E ++ [(0 : Int)]).length = E.length + 1 := by simp
            have eS : (E ++ [(0 : Int)]).set E.length s.f1 = E ++ [s.f1] := by rw [List.set_append_right _ _ (Nat.le_refl _)]; simp
            have he7 := HE7.out
            rw [eS, eL] at he7
            exact ⟨kk + 1, by omega, by omega, by go_num, HW7, ⟨by rw [hst]; exact HP7.out⟩, ⟨by rw [hst]; exact he7⟩⟩
        · obtain ⟨tn, htn'⟩ : ∃ tn : Nat, t = (tn : Int) := ⟨t.toNat, by have := htb.2.2 htn; omega⟩
          subst htn'
          have htE : tn < E.length := by have := htb.2.1; omega
          have HST := Aside0.mk (show trF l0 (O.take (kk + 1)) = (P.set i.toNat (tn : Int), E.set tn s.f1) by rw [STEP.out, if_neg (by omega), Int.toNat_natCast])
          clear STEP htb htn
          have hneg : ¬ (tn : Int) < 0 := by omega
          have htz : (tn : Int) < (E.length : Int) := by omega
          go_wp2_with (first | (go_at_call 82; rw [← HWAE.out]; (with_reducible refine HIDX.out.mono ?_); rintro e w4 ⟨rfl, hw4⟩; subst hw4))
          have HBIX := HBI
          have HBLX := HBL
          have HSXX := HSX
          obtain ⟨h, ch, eh, hb, hlh, _, _⟩ := Kd.R_form HEA.out (by omega)
          injection eh with eh1 eh2 eh3
          subst eh1 eh3
          obtain ⟨hx4, hf4⟩ := Kd.R_celln (0 : Int) HPA.out i i0 i1
          obtain ⟨hx5, hf5⟩ := Kd.R_celln (0 : Int) HEA.out (tn : Int) (by omega) (by omega)
          rw [Int.toNat_natCast] at hx5 hf5
          have hne : h ≠ g := by have := HGW.out; omega
          have hx6 : (w4.setCell ⟨g, i.toNat, none⟩ (.int .i64 (tn : Int))).cell? ⟨h, tn, none⟩ = some (.int .i64 (rdOf 0 (E) (tn : Int))) := (World.cell?_setCell_other _ _ _ _ (by intro e; simp only [Addr.mk.injEq] at e; exact hne e.1.symm)).trans hx5
          have HP7 := Aside0.mk (Kd.R_drew (Kd.R_grown (Kd.R_putn HPA.out i (tn : Int)) (grownBy_setCell2 _ h tn (Value.int .i64 s.f1)) (fun k hk => by rw [hk]; intro he; injection he with he; exact hne he.symm)))
          have HE7 := Aside0.mk (Kd.R_drew (Kd.R_putn (Kd.R_grown HEA.out (grownBy_setCell2 w4 g i.toNat (Value.int .i64 (tn : Int))) (fun k hk => by intro he; injection he with he; have := HGW.out; omega)) (tn : Int) s.f1))
          have HW7 := Aside0.mk (show w3.grownBy ((w4.setCell ⟨g, i.toNat, none⟩ (.int .i64 (tn : Int))).setCell ⟨h, tn, none⟩ (.int .i64 s.f1)).drew (some g) from ((HWA.out.andThen (grownBy_setCell2 _ g i.toNat _) (fun j hj => .inr hj)).andThen (grownBy_setCell2 _ h tn _) (fun j hj => by injection hj with hj; subst hj; exact .inl hb)).andThen (grownBy_drew _) (fun j hj => by cases hj))
          rw [Int.toNat_natCast] at HE7
          have hbiX := HBIX.out
          have hblX := HBLX.out
          have hsxX := HSXX.out
          clear HPA HEA HWA HBIX HBLX HSXX hne hb hlh
          go_wp2_with fail
          go_big_region
          clear hx4 hx5 hx6 hf4 hf5 hbiX hblX hsxX
          generalize ((w4.setCell ⟨g, i.toNat, none⟩ (.int .i64 (tn : Int))).setCell ⟨h, tn, none⟩ (.int .i64 s.f1)).drew = w9 at HP7 HE7 HW7 ⊢
          go_wp2
          go_roundg (l0.length - (kk + 1))
          case measure => omega
          case rel =>
            have hst := HST.out
            exact ⟨kk + 1, by omega, by omega, by go_num, HW7, ⟨by rw [hst]; exact HP7.out⟩, ⟨by rw [hst]; exact HE7.out⟩⟩
      · have hltz : ¬ (kk : Int) < (O.length : Int) := by have := HOL.out; omega
        have hk : O.take kk = O := List.take_of_length_le (by have := HOL.out; omega)
        have hp := HP.out
        have he := HE.out
        rw [hk] at hp he
        rw [H1.out] at hp
        obtain ⟨A4, c4, e4⟩ := Kd.R_slice he
        subst e4
        have HPP := Aside0.mk hp
        have H2' := Aside0.mk H2.out
        have HBF := Aside0.mk (HB3.out.grown HW.out HB3.out.size (fun k hk => by cases hk; have := HG2.out; have := HWL.out; omega))
        clear hp he hk H1 HP HE
        go_wp2
        go_ret3
        exact ⟨_, by rw [H2'.out]; rfl, Kd.R_reok rfl (Kd.R_lower HPP.out (Nat.le_of_lt HWL.out)) (fun _ _ => trivial), HBF.out⟩
  · rw [if_neg h0] at h
    injection h with h1 h2
    injection h2 with h2 h3
    subst h1 h2
    have HT := Aside0.mk (listed_f l0)
    rw [h3] at HT h0
    clear h3
    have hne : (r3 == 0) = false := by simpa using h0
    go_enter Try.func45, Try.ntmps45
    go_wp2_with (go_at_call 64; (with_reducible refine (span_listed.calls _ _ l0 r3 _ (Kd.C_below HR0.out HB0.out) HC0.out HT.out).mono ?_); rintro e w1 ⟨rfl, hb1⟩)
    go_ret3
    exact ⟨_, rfl, Kd.R_nil _ _ _ _ _, below_then HB0.out HB0.out.size hb1⟩
end Go.Proofs.Ytningpmoojnomaa.Pr
end
section
namespace Go.Proofs.Ytningpmoojnomaa.Pr
open Go.RowKit Go.Proofs.YtningpmoojnomaaW.PrintWords Go.Proofs.YtningpmoojnomaaW.PrintLast Go.Proofs.YtningpmoojnomaaW.PrintMore
set_option linter.unusedVariables false
set_option linter.unusedSimpArgs false
theorem idxS_cases {α : Type} (p : α → Bool) (l : List α) (z : α) : (idxS p l = -1 ∧ ∀ j, j < l.length → p (l.getD j z) = false) ∨ ∃ k, k < l.length ∧ idxS p l = (k : Int) ∧ p (l.getD k z) = true := by
  unfold idxS
  rcases h : l.findIdx? p with _ | k
  · refine .inl ⟨rfl, fun j hj => ?_⟩
    have := (List.findIdx?_eq_none_iff.1 h) l[j] (List.getElem_mem hj)
    rw [List.getD_eq_getElem?_getD, List.getElem?_eq_getElem hj]
    simpa using this
  · obtain ⟨hk, h1, _⟩ := List.findIdx?_eq_some_iff_getElem.1 h
    refine .inr ⟨k, hk, rfl, ?_⟩
    rw [List.getD_eq_getElem?_getD, List.getElem?_eq_getElem hk]
    exact h1
theorem list_irange (l : List S32) : (irange 0 l.length).map (spL l) = l := by
  refine List.ext_getElem (by simp [irange_len]) (fun i h1 h2 => ?_)
  simp [irange, spL, List.getD_eq_getElem?_getD, List.getElem?_eq_getElem h2]
theorem cnt_irange (l : List S32) (x : Int) : cntS l x = ((irange 0 l.length).filter (fun i => hasS x (spL l i))).length := by
  unfold cntS
  conv => lhs; rw [← list_irange l]
  rw [List.countP_map, List.countP_eq_length_filter]
  rfl
theorem cnt_ge (l : List S32) (x : Int) (F : List Int) (hn : F.Nodup) (hF : ∀ i ∈ F, 0 ≤ i ∧ i < (l.length : Int) ∧ hasS x (spL l i) = true) : F.length ≤ cntS l x := by
  rw [cnt_irange]
  refine hn.length_le_of_subset (fun i hi => ?_)
  obtain ⟨h1, h2, h3⟩ := hF i hi
  rw [List.mem_filter, irange_mem]
  exact ⟨⟨by simpa using h1, h2⟩, h3⟩
theorem rd_set (o : List Int) (x y v : Int) (hx0 : 0 ≤ x) (hy0 : 0 ≤ y) (hx : x < (o.length : Int)) : rd (o.set x.toNat v) y = if y = x then v else rd o y := by
  unfold rd
  rw [List.getD_eq_getElem?_getD, List.getD_eq_getElem?_getD, List.getElem?_set]
  by_cases c : y = x
  · subst c
    rw [if_pos rfl, if_pos rfl, if_pos (by omega)]
    rfl
  · rw [if_neg (by omega), if_neg c]
theorem getD_set (o : List Int) (k j : Nat) (v : Int) (hk : k < o.length) : (o.set k v).getD j 0 = if j = k then v else o.getD j 0 := by
  rw [List.getD_eq_getElem?_getD, List.getD_eq_getElem?_getD, List.getElem?_set]
  by_cases c : j = k
  · subst c
    rw [if_pos rfl, if_pos rfl, if_pos hk]
    rfl
  · rw [if_neg (by omega), if_neg c]
theorem getD_snoc (o : List Int) (j : Nat) (v : Int) (hj : j < o.length + 1) : (o ++ [v]).getD j 0 = if j = o.length then v else o.getD j 0 := by
  rw [List.getD_eq_getElem?_getD, List.getD_eq_getElem?_getD]
  by_cases c : j = o.length
  · subst c
    rw [if_pos rfl, List.getElem?_append_right (Nat.le_refl _), Nat.sub_self]
    rfl
  · rw [if_neg c, List.getElem?_append_left (by omega)]
/-- What is known of trays and ends, some spans having been laid. -/
structure Tr (l : List S32) (q : Int) (done out ends : List Int) : Prop where
  len : out.length = l.length
  box : ∀ y ∈ done, 0 ≤ rd out y ∧ rd out y < (ends.length : Int) ∧ (spL l y).f1 ≤ ends.getD (rd out y).toNat 0
  dis : ∀ y ∈ done, ∀ z ∈ done, y ≠ z → rd out y = rd out z → ¬ ((spL l y).f0 < (spL l z).f1 ∧ (spL l z).f0 < (spL l y).f1)
  has : ∀ t, t < ends.length → ∃ y ∈ done, rd out y = (t : Int) ∧ (spL l y).f1 = ends.getD t 0
  few : (ends.length : Int) ≤ q
theorem tr_nil (l : List S32) (q : Int) (hq : 0 ≤ q) : Tr l q [] (List.replicate l.length 0) [] := by
  refine ⟨by simp, ?_, ?_, ?_, by simpa using hq⟩
  · intro y hy; cases hy
  · intro y hy; cases hy
  · intro t ht; simp at ht
theorem tr_step (l : List S32) (q : Int) (hq : ∀ x, (cntS l x : Int) ≤ q) (done out ends : List Int) (x : Int) (h : Tr l q done out ends) (hd : ∀ y ∈ done, 0 ≤ y ∧ y < (l.length : Int)) (hx : 0 ≤ x ∧ x < (l.length : Int)) (hxd : x ∉ done)
    (hgx : (spL l x).f0 < (spL l x).f1) (ho : ∀ y ∈ done, (spL l y).f0 ≤ (spL l x).f0) :
    Tr l q (done ++ [x]) (trS l (out, ends) x).1 (trS l (out, ends) x).2 := by
  have hlen := h.len
  have rs : ∀ v y, 0 ≤ y → rd (out.set x.toNat v) y = if y = x then v else rd out y := fun v y hy => rd_set out x y v hx.1 hy (by omega)
  have hne : ∀ y ∈ done, y ≠ x := fun y hy e => hxd (e ▸ hy)
  unfold trS
  change Tr l q _ (if idxS (fun hi => decide (hi ≤ (spL l x).f0)) ends < 0 then (out.set x.toNat (ends.length : Int), ends ++ [(spL l x).f1]) else (out.set x.toNat (idxS (fun hi => decide (hi ≤ (spL l x).f0)) ends), ends.set (idxS (fun hi => decide (hi ≤ (spL l x).f0)) ends).toNat (spL l x).f1)).1 (if idxS (fun hi => decide (hi ≤ (spL l x).f0)) ends < 0 then (out.set x.toNat (ends.length : Int), ends ++ [(spL l x).f1]) else (out.set x.toNat (idxS (fun hi => decide (hi ≤ (spL l x).f0)) ends), ends.set (idxS (fun hi => decide (hi ≤ (spL l x).f0)) ends).toNat (spL l x).f1)).2
  rcases idxS_cases (fun hi => decide (hi ≤ (spL l x).f0)) ends 0 with ⟨e, hall⟩ | ⟨k, hk, e, hp⟩
  · rw [e, if_pos (by decide)]
    have hgt : ∀ t, t < ends.length → (spL l x).f0 < ends.getD t 0 := fun t ht => by
      have := of_decide_eq_false (hall t ht)
      omega
    refine ⟨by simp [hlen], fun y hy => ?_, fun y hy z hz hyz he => ?_, fun t ht => ?_, ?_⟩
    · rcases List.mem_append.1 hy with hy | hy
      · have hb := h.box y hy
        simp only
        rw [rs _ y (hd y hy).1, if_neg (hne y hy), List.length_append, List.length_singleton, getD_snoc _ _ _ (by omega), if_neg (by omega)]
        exact ⟨hb.1, by omega, hb.2.2⟩
      · rw [List.mem_singleton] at hy
        subst hy
        simp only
        rw [rs _ y hx.1, if_pos rfl, List.length_append, List.length_singleton, Int.toNat_natCast, getD_snoc _ _ _ (by omega), if_pos rfl]
        exact ⟨by omega, by omega, Int.le_refl _⟩
    · simp only at he
      rcases List.mem_append.1 hy with hy1 | hy
      · have hy2 := hy1
        rcases List.mem_append.1 hz with hz | hz
        · rw [rs _ y (hd y hy1).1, if_neg (hne y hy1), rs _ z (hd z hz).1, if_neg (hne z hz)] at he
          exact h.dis y hy1 z hz hyz he
        · rw [List.mem_singleton] at hz
          subst hz
          rw [rs _ y (hd y hy1).1, if_neg (hne y hy1), rs _ z hx.1, if_pos rfl] at he
          have := (h.box y hy1).2.1
          omega
      · rw [List.mem_singleton] at hy
        subst hy
        rcases List.mem_append.1 hz with hz | hz
        · rw [rs _ z (hd z hz).1, if_neg (hne z hz), rs _ y hx.1, if_pos rfl] at he
          have := (h.box z hz).2.1
          omega
        · rw [List.mem_singleton] at hz
          exact absurd hz.symm hyz
    · simp only [List.length_append, List.length_singleton] at ht
      simp only
      by_cases c : t = ends.length
      · subst c
        refine ⟨x, List.mem_append_right _ (List.mem_singleton.2 rfl), ?_, ?_⟩
        · rw [rs _ x hx.1, if_pos rfl]
        · rw [getD_snoc _ _ _ (by omega), if_pos rfl]
      · obtain ⟨y, hy, h1, h2⟩ := h.has t (by omega)
        refine ⟨y, List.mem_append_left _ hy, ?_, ?_⟩
        · rw [rs _ y (hd y hy).1, if_neg (hne y hy), h1]
        · rw [getD_snoc _ _ _ (by omega), if_neg c, h2]
    · have hch : ∀ t : Nat, ∃ y, t < ends.length → (y ∈ done ∧ rd out y = (t : Int) ∧ (spL l y).f1 = ends.getD t 0) := fun t => by
        by_cases ht : t < ends.length
        · obtain ⟨y, h1, h2, h3⟩ := h.has t ht
          exact ⟨y, fun _ => ⟨h1, h2, h3⟩⟩
        · exact ⟨0, fun hc => absurd hc ht⟩
      obtain ⟨f, hf⟩ := Classical.axiomOfChoice hch
      have hF := cnt_ge l (spL l x).f0 (x :: (List.range ends.length).map f) (by
        rw [List.nodup_cons]
        refine ⟨fun hm => ?_, ?_⟩
        · obtain ⟨t, ht, e⟩ := List.mem_map.1 hm
          have := (hf t (List.mem_range.1 ht)).1
          rw [e] at this
          exact hxd this
        · rw [List.Nodup, List.pairwise_map]
          refine List.Pairwise.imp_of_mem (fun {a b} ha hb hab he => ?_) (List.pairwise_lt_range (n := ends.length))
          have h1 := (hf a (List.mem_range.1 ha)).2.1
          have h2 := (hf b (List.mem_range.1 hb)).2.1
          rw [he] at h1
          omega) (fun i hi => by
        rcases List.mem_cons.1 hi with rfl | hi
        · exact ⟨hx.1, hx.2, (hasS_iff _ _).2 ⟨Int.le_refl _, hgx⟩⟩
        · obtain ⟨t, ht, rfl⟩ := List.mem_map.1 hi
          have ht' := List.mem_range.1 ht
          obtain ⟨h1, h2, h3⟩ := hf t ht'
          refine ⟨(hd _ h1).1, (hd _ h1).2, (hasS_iff _ _).2 ⟨ho _ h1, ?_⟩⟩
          rw [h3]
          exact hgt t ht')
      have h2 := hq (spL l x).f0
      simp only [List.length_cons, List.length_map, List.length_range] at hF
      simp only [List.length_append, List.length_singleton]
      omega
  · rw [e, if_neg (by omega), Int.toNat_natCast]
    have hle : ends.getD k 0 ≤ (spL l x).f0 := of_decide_eq_true hp
    refine ⟨by simp [hlen], fun y hy => ?_, fun y hy z hz hyz he => ?_, fun t ht => ?_, by simpa using h.few⟩
    · rcases List.mem_append.1 hy with hy | hy
      · have hb := h.box y hy
        simp only
        rw [rs _ y (hd y hy).1, if_neg (hne y hy), List.length_set, getD_set _ _ _ _ hk]
        refine ⟨hb.1, hb.2.1, ?_⟩
        by_cases c : (rd out y).toNat = k
        · rw [if_pos c]
          rw [c] at hb
          omega
        · rw [if_neg c]
          exact hb.2.2
      · rw [List.mem_singleton] at hy
        subst hy
        simp only
        rw [rs _ y hx.1, if_pos rfl, List.length_set, Int.toNat_natCast, getD_set _ _ _ _ hk, if_pos rfl]
        exact ⟨by omega, by omega, Int.le_refl _⟩
    · simp only at he
      have kx : ∀ y ∈ done, rd out y = (k : Int) → (spL l y).f1 ≤ (spL l x).f0 := fun y hy e2 => by
        have := (h.box y hy).2.2
        rw [e2, Int.toNat_natCast] at this
        omega
      rcases List.mem_append.1 hy with hy1 | hy
      · rcases List.mem_append.1 hz with hz | hz
        · rw [rs _ y (hd y hy1).1, if_neg (hne y hy1), rs _ z (hd z hz).1, if_neg (hne z hz)] at he
          exact h.dis y hy1 z hz hyz he
        · rw [List.mem_singleton] at hz
          subst hz
          rw [rs _ y (hd y hy1).1, if_neg (hne y hy1), rs _ z hx.1, if_pos rfl] at he
          have := kx y hy1 he
          omega
      · rw [List.mem_singleton] at hy
        subst hy
        rcases List.mem_append.1 hz with hz | hz
        · rw [rs _ z (hd z hz).1, if_neg (hne z hz), rs _ y hx.1, if_pos rfl] at he
          have := kx z hz he.symm
          omega
        · rw [List.mem_singleton] at hz
          exact absurd hz.symm hyz
    · simp only [List.length_set] at ht
      simp only
      by_cases c : t = k
      · subst c
        refine ⟨x, List.mem_append_right _ (List.mem_singleton.2 rfl), ?_, ?_⟩
        · rw [rs _ x hx.1, if_pos rfl]
        · rw [getD_set _ _ _ _ hk, if_pos rfl]
      · obtain ⟨y, hy, h1, h2⟩ := h.has t ht
        refine ⟨y, List.mem_append_left _ hy, ?_, ?_⟩
        · rw [rs _ y (hd y hy).1, if_neg (hne y hy), h1]
        · rw [getD_set _ _ _ _ hk, if_neg c, h2]
theorem tr_fold (l : List S32) (q : Int) (hq : ∀ x, (cntS l x : Int) ≤ q) (O : List Int) (hO : O.Pairwise (Ord (kLo l))) (hi : ∀ y ∈ O, 0 ≤ y ∧ y < (l.length : Int)) (hg : ∀ y ∈ O, (spL l y).f0 < (spL l y).f1) : ∀ k, k ≤ O.length → Tr l q (O.take k) (trF l (O.take k)).1 (trF l (O.take k)).2
  | 0, _ => by
    have := hq 0
    simpa [trF] using tr_nil l q (by omega)
  | k + 1, h => by
    have ih := tr_fold l q hq O hO hi hg k (by omega)
    have hk : k < O.length := by omega
    have er : rd O (k : Int) = O[k] := by simp [rd, List.getD_eq_getElem?_getD, List.getElem?_eq_getElem hk]
    have hlt : ∀ y ∈ O.take k, Ord (kLo l) y O[k] := fun y hy => by
      obtain ⟨j, hj, rfl⟩ := List.mem_iff_getElem.1 hy
      rw [List.length_take] at hj
      rw [List.getElem_take]
      exact (List.pairwise_iff_getElem.1 hO) j k (by omega) hk (by omega)
    rw [trF_succ l O k hk, List.take_succ_eq_append_getElem hk, er]
    refine tr_step l q hq _ _ _ _ ih (fun y hy => hi y (List.mem_of_mem_take hy)) (hi _ (List.getElem_mem hk)) (fun hm => ?_) (hg _ (List.getElem_mem hk)) (fun y hy => ?_)
    · have := hlt _ hm
      unfold Ord at this
      omega
    · have := hlt y hy
      simp only [Ord, kLo, kfS] at this
      unfold spL
      omega
end Go.Proofs.Ytningpmoojnomaa.Pr
end
