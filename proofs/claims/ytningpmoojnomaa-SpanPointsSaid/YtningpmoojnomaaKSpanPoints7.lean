/- What the proof of the law needs, trimmed and merged by wip/pack.py out of the texts YtningpmoojnomaaExtSyn, YtningpmoojnomaaExtSyi. No condition. -/
import Derived.Test.YtningpmoojnomaaKSpanPoints0
import Derived.Test.YtningpmoojnomaaKSpanPoints1
import Derived.Test.YtningpmoojnomaaKSpanPoints2
import Derived.Test.YtningpmoojnomaaKSpanPoints3
import Derived.Test.YtningpmoojnomaaKSpanPoints4
import Derived.Test.YtningpmoojnomaaKSpanPoints5
import Derived.Test.YtningpmoojnomaaKSpanPoints6
section
namespace Go.Proofs.Ytningpmoojnomaa.Pr
open Go.Shelf Go.RowKit Go.Lib Go.Sort Go.Proofs.YtningpmoojnomaaW.PrintWords
set_option linter.unusedVariables false
set_option linter.unusedSimpArgs false
theorem join_any {kf : Int → Int} {A B : List Int} (hA : A.Pairwise (Ord kf)) (hB : B.Pairwise (Ord kf)) (h : A = [] ∨ B = []) : (A ++ B).Pairwise (Ord kf) := by
  rcases h with rfl | rfl
  · simpa using hB
  · simpa using hA
theorem key_mid {kf : Int → Int} {X M Y : List Int} (hM : M.Pairwise (Ord kf)) (a : Nat) (ha : a = X.length) (c c' : Nat) (h1 : a ≤ c) (h2 : c ≤ c') (h3 : c' < a + M.length) : kf (X ++ M ++ Y).toArray[c]! ≤ kf (X ++ M ++ Y).toArray[c']! := by
  rw [at_idx_mid X M Y c (c - a) (by omega) (by omega), at_idx_mid X M Y c' (c' - a) (by omega) (by omega)]
  exact key_at hM (by omega) (by omega)
/-- What is known of the merge's places: a ≤ m ≤ b, the middle, where the search begins. -/
structure SymAt (a m b mid s0 r0 nN pN N : Nat) : Prop where
  h1 : a < m
  h2 : m < b
  h3 : b ≤ N
  hm : mid = (a + b) / 2
  hn : nN = mid + m
  hp : pN + 1 = nN
  s1 : a ≤ s0
  s2 : s0 ≤ r0
  s3 : r0 ≤ m
  s4 : r0 ≤ mid
  s5 : nN ≤ s0 + b
  s6 : s0 = a ∨ s0 + b = nN
  s7 : r0 = m ∨ r0 = mid
set_option maxHeartbeats 32000000 in
set_option maxRecDepth 1000000 in
theorem symMore_c (kf : Int → Int) (g : Nat) (cb : Array Value) (blk off cap N : Nat) (d0 : Array Int) (w0 : World) (R : Row1 eI w0 blk off d0) (hs : d0.size = N) (hcmp : CmpOn kf g cb blk off N w0) (eg : ∀ args w, (callFunc g args).run Try.prog w = .ok (.enter g args) w) (hsz : N < 4611686018427387904) (w : World) (n a m b mid s0 r0 nN pN : Nat) (X L Rr Y : List Int) (ham : SymAt a m b mid s0 r0 nN pN N) (hcase : (mid < m ∧ s0 + b = nN ∧ r0 = mid) ∨ (¬ mid < m ∧ s0 = a ∧ r0 = m)) (hn : L.length + Rr.length = n + 1) (hL1 : L.length ≠ 1) (hR1 : Rr.length ≠ 1) (hLs : L.Pairwise (Ord kf)) (hRs : Rr.Pairwise (Ord kf)) (hLR : ∀ l ∈ L, ∀ r ∈ Rr, l < r)
    (ha : a = X.length) (hm : m = X.length + L.length) (hb : b = X.length + L.length + Rr.length) (hN : (X ++ L ++ Rr ++ Y).length = N) (hP : ∀ x ∈ X ++ L ++ Rr ++ Y, 0 ≤ x ∧ x < (N : Int))
    (ih : ∀ (w : World) (a m b : Nat) (X L Rr Y : List Int), L.length + Rr.length ≤ n → 0 < L.length → 0 < Rr.length → L.Pairwise (Ord kf) → Rr.Pairwise (Ord kf) → (∀ l ∈ L, ∀ r ∈ Rr, l < r) → a = X.length → m = X.length + L.length → b = X.length + L.length + Rr.length → (X ++ L ++ Rr ++ Y).length = N → (∀ x ∈ X ++ L ++ Rr ++ Y, 0 ≤ x ∧ x < (N : Int)) → SW eI w0 blk off (X ++ L ++ Rr ++ Y).toArray w →
      Calls Try.prog 121 #[.slice (some ⟨blk, off, none⟩) N cap, .int .i64 a, .int .i64 m, .int .i64 b, .func (.func g) #[] cb] w fun e w' => e = .returned (.tuple #[]) ∧ ∃ M, M.Perm (L ++ Rr) ∧ M.Pairwise (Ord kf) ∧ SW eI w0 blk off (X ++ M ++ Y).toArray w')
    (S : SW eI w0 blk off (X ++ L ++ Rr ++ Y).toArray w) :
    Calls Try.prog 121 #[.slice (some ⟨blk, off, none⟩) N cap, .int .i64 a, .int .i64 m, .int .i64 b, .func (.func g) #[] cb] w fun e w' => e = .returned (.tuple #[]) ∧ ∃ M, M.Perm (L ++ Rr) ∧ M.Pairwise (Ord kf) ∧ SW eI w0 blk off (X ++ M ++ Y).toArray w' := by
  have mixed := mixedT
  have hcl0 := R.hO.cells
  simp only [Value.cells] at hcl0
  have hst := R.hO.store Try.prog
  have u33 := Try.underlying33
  have HC : Aside _ := hcmp
  have HLS := Aside0.mk hLs
  have HRS := Aside0.mk hRs
  have HLR := Aside0.mk hLR
  have HIH := Aside0.mk ih
  have HAM := Aside0.mk ham
  have HPX := Aside0.mk (show ∀ x ∈ X, 0 ≤ x ∧ x < (N : Int) from fun x hx => hP x (by simp [hx]))
  have HPL := Aside0.mk (show ∀ x ∈ L, 0 ≤ x ∧ x < (N : Int) from fun x hx => hP x (by simp [hx]))
  have HPR := Aside0.mk (show ∀ x ∈ Rr, 0 ≤ x ∧ x < (N : Int) from fun x hx => hP x (by simp [hx]))
  have HPY := Aside0.mk (show ∀ x ∈ Y, 0 ≤ x ∧ x < (N : Int) from fun x hx => hP x (by simp [hx]))
  have HXA := Aside0.mk ha
  have HLL := Aside0.mk (show a + L.length = m by omega)
  have HRL := Aside0.mk (show m + Rr.length = b by omega)
  have HLN2 := Aside0.mk (show (m - a) + (b - m) = n + 1 by omega)
  have HXL := Aside0.mk (show X.length + L.length + Rr.length + Y.length = N by rw [← hN]; simp only [List.length_append])
  obtain ⟨dk, hdk⟩ : ∃ dk, dk = (X ++ L ++ Rr ++ Y).toArray := ⟨_, rfl⟩
  have hds : dk.size = N := by rw [hdk, ← hN]; simp
  have HALL := Aside0.mk (show ∀ i, i < N → 0 ≤ dk[i]! ∧ dk[i]! < (N : Int) from fun i hi => by rw [hdk]; exact all_idx hP i (by rw [hN]; exact hi))
  have HKL := Aside0.mk (show ∀ c c', a ≤ c → c ≤ c' → c' < m → kf dk[c]! ≤ kf dk[c']! from fun c c' h1 h2 h3 => by
    rw [hdk, show X ++ L ++ Rr ++ Y = X ++ L ++ (Rr ++ Y) by simp]
    exact key_mid hLs a ha c c' h1 h2 (by omega))
  have HKR := Aside0.mk (show ∀ c c', m ≤ c → c ≤ c' → c' < b → kf dk[c]! ≤ kf dk[c']! from fun c c' h1 h2 h3 => by
    rw [hdk]
    exact key_mid hRs m (by simp; omega) c c' h1 h2 (by omega))
  have HDL := Aside0.mk (show ∀ c, (h : c < L.length) → dk[a + c]! = L[c] from fun c h => by
    rw [hdk, show X ++ L ++ Rr ++ Y = X ++ L ++ (Rr ++ Y) by simp]
    exact at_idx_mid _ _ _ _ c (by omega) h)
  have HDR := Aside0.mk (show ∀ c, (h : c < Rr.length) → dk[m + c]! = Rr[c] from fun c h => by
    rw [hdk]
    exact at_idx_mid _ _ _ _ c (by simp; omega) h)
  rw [← hdk] at S
  have HDK := Aside0.mk hdk
  have S0 : Aside (SW eI w0 blk off dk w) := S
  obtain ⟨k1, k2, k3, km, kn, kp, ks1, ks2, ks3, ks4, ks5, ks6, ks7⟩ := ham
  have hne : ¬ (m : Int) - (a : Int) = 1 := by omega
  have hneb : ((m : Int) - (a : Int) == 1) = false := by simpa using hne
  have hbm : ¬ (b : Int) - (m : Int) = 1 := by omega
  have hbmb : ((b : Int) - (m : Int) == 1) = false := by simpa using hbm
  have hmidz : ((a : Int) + (b : Int)) / 2 = (mid : Int) := by omega
  have hnz : (mid : Int) + (m : Int) = (nN : Int) := by omega
  have hpz : (nN : Int) - 1 = (pN : Int) := by omega
  clear S hcmp ha hm hb hN hLs hRs hLR hdk ih hL1 hR1 hn hP
  have hbd : mid < N ∧ nN < 2 * N ∧ pN < 2 * N ∧ b ≤ N ∧ m < b ∧ a < m ∧ a ≤ s0 ∧ s0 ≤ r0 ∧ r0 ≤ m ∧ r0 ≤ mid := by omega
  clear km kn kp ks1 ks2 ks3 ks4 ks5 ks6 ks7
  rcases hcase with ⟨hc1, hc2, hc3⟩ | ⟨hc1, hc2, hc3⟩
  · have hc1z : (mid : Int) < (m : Int) := by omega
    have hsz0 : (nN : Int) - (b : Int) = (s0 : Int) := by omega
    have HC2 := Aside0.mk hc2
    clear hc2
    obtain rfl : mid = r0 := hc3.symm
    go_enter Try.func121, Try.ntmps121
    go_wp2
    go_loopg [20, 21] (mid - s0) (fun kx s20 s21 wr => ∃ (s r : Nat), s20 = .int .i64 s ∧ s21 = .int .i64 r ∧ s0 ≤ s ∧ s ≤ r ∧ r ≤ mid ∧ r - s ≤ kx ∧ Aside0 (∀ c, s0 ≤ c → c < s → ¬ kf dk[pN - c]! < kf dk[c]!) ∧ Aside0 (∀ c, r ≤ c → c < mid → kf dk[pN - c]! < kf dk[c]!) ∧ Aside (SW eI w0 blk off dk wr))
    case atStart => exact ⟨s0, mid, rfl, rfl, by omega, by omega, by omega, by omega, ⟨fun c h1 h2 => by omega⟩, ⟨fun c h1 h2 => by omega⟩, S0⟩
    case round =>
      clear S0
      obtain ⟨s, r, rfl, rfl, hss, hsr, hrr, hkx, HI, HJ, S1⟩ := hrel
      by_cases hlt : s < r
      · have hltz : (s : Int) < (r : Int) := by omega
        obtain ⟨h, hh⟩ : ∃ h : Nat, h = (s + r) / 2 := ⟨_, rfl⟩
        have hhz : ((s : Int) + (r : Int)) / 2 = (h : Int) := by omega
        have hhb : s0 ≤ h ∧ s ≤ h ∧ h < r := by omega
        have HH := Aside0.mk hh
        clear hh
        obtain ⟨q, hq⟩ : ∃ q, q = pN - h := ⟨_, rfl⟩
        have hqz : (pN : Int) - (h : Int) = (q : Int) := by have := HAM.out.hp; have := HAM.out.hn; omega
        have hqb : m ≤ q ∧ q < b := by have := HAM.out.hp; have := HAM.out.hn; have := HAM.out.s5; omega
        have HQ := Aside0.mk hq
        have HT := Aside0.mk (cfK_lt kf dk[q]! dk[h]!)
        clear hq
        by_cases hcf : cfK kf dk[q]! dk[h]! < 0
        · have HF := Aside0.mk (HT.out.1 hcf)
          obtain ⟨iN1, hiN1⟩ : ∃ qq, qq = q := ⟨_, rfl⟩
          obtain ⟨jN1, hjN1⟩ : ∃ qq, qq = h := ⟨_, rfl⟩
          have ea1 : ((q : Int)).toNat = iN1 := by omega
          have pa1 : (0 : Int) ≤ (q : Int) := by omega
          have ba1 : (q : Int) < (N : Int) := by omega
          have ec1 : ((h : Int)).toNat = jN1 := by omega
          have pc1 : (0 : Int) ≤ (h : Int) := by omega
          have bc1 : (h : Int) < (N : Int) := by omega
          have ra1 : IntKind.i64.wrap ((q : Int)) = (q : Int) := by rw [IntKind.wrap_i64]; omega
          have rc1 : IntKind.i64.wrap ((h : Int)) = (h : Int) := by rw [IntKind.wrap_i64]; omega
          obtain ⟨x1, hx1⟩ : ∃ x, x = dk[q]! := ⟨_, rfl⟩
          obtain ⟨y1, hy1⟩ : ∃ x, x = dk[h]! := ⟨_, rfl⟩
          have l1a := S1.out.cl R (by rw [hds, hs]) (q) (by omega)
          have l1b := S1.out.cl R (by rw [hds, hs]) (h) (by omega)
          rw [← hx1, ← hiN1] at l1a
          rw [← hy1, ← hjN1] at l1b
          have hc1 := sw_cmpOn S1.out HC.out hds x1 y1 (by rw [hx1]; exact HALL.out (q) (by omega)) (by rw [hy1]; exact HALL.out (h) (by omega))
          have hv1 : cfK kf x1 y1 < 0 := by rw [hx1, hy1]; exact hcf
          have hd1 : decide (cfK kf x1 y1 < 0) = true := decide_eq_true hv1
          clear hx1 hy1 hiN1 hjN1 hcf
          go_wp2_with fail
          go_quiet_grown (first | (go_at_fn g; refine Calls.grown_of (hc1 _ _)))
          have S2 : Aside (SW eI w0 blk off dk (grow (wr.drewN nq) osq)) := S1.out.grown nq osq
          clear l1a l1b hc1 S1
          generalize grow (wr.drewN nq) osq = w2 at S2 ⊢
          clear nq osq
          clear ea1 ec1
          go_wp2
          go_roundg (h - s)
          case measure => omega
          case rel =>
            refine ⟨s, h, rfl, rfl, by omega, by omega, by omega, by omega, HI, ⟨fun c h1 h2 => ?_⟩, S2⟩
            have h3 := HKL.out h c (by omega) h1 (by omega)
            have h4 := HKR.out (pN - c) q (by have := HAM.out.hp; have := HAM.out.hn; omega) (by have := HQ.out; omega) (by omega)
            have := HF.out
            omega
        · have HF := Aside0.mk (show ¬ kf dk[q]! < kf dk[h]! from fun h => hcf (HT.out.2 h))
          obtain ⟨iN2, hiN2⟩ : ∃ qq, qq = q := ⟨_, rfl⟩
          obtain ⟨jN2, hjN2⟩ : ∃ qq, qq = h := ⟨_, rfl⟩
          have ea2 : ((q : Int)).toNat = iN2 := by omega
          have pa2 : (0 : Int) ≤ (q : Int) := by omega
          have ba2 : (q : Int) < (N : Int) := by omega
          have ec2 : ((h : Int)).toNat = jN2 := by omega
          have pc2 : (0 : Int) ≤ (h : Int) := by omega
          have bc2 : (h : Int) < (N : Int) := by omega
          have ra2 : IntKind.i64.wrap ((q : Int)) = (q : Int) := by rw [IntKind.wrap_i64]; omega
          have rc2 : IntKind.i64.wrap ((h : Int)) = (h : Int) := by rw [IntKind.wrap_i64]; omega
          obtain ⟨x2, hx2⟩ : ∃ x, x = dk[q]! := ⟨_, rfl⟩
          obtain ⟨y2, hy2⟩ : ∃ x, x = dk[h]! := ⟨_, rfl⟩
          have l2a := S1.out.cl R (by rw [hds, hs]) (q) (by omega)
          have l2b := S1.out.cl R (by rw [hds, hs]) (h) (by omega)
          rw [← hx2, ← hiN2] at l2a
          rw [← hy2, ← hjN2] at l2b
          have hc2 := sw_cmpOn S1.out HC.out hds x2 y2 (by rw [hx2]; exact HALL.out (q) (by omega)) (by rw [hy2]; exact HALL.out (h) (by omega))
          have hv2 : ¬ cfK kf x2 y2 < 0 := by rw [hx2, hy2]; exact hcf
          have hd2 : decide (cfK kf x2 y2 < 0) = false := decide_eq_false hv2
          clear hx2 hy2 hiN2 hjN2 hcf
          go_wp2_with fail
          go_quiet_grown (first | (go_at_fn g; refine Calls.grown_of (hc2 _ _)))
          have S2 : Aside (SW eI w0 blk off dk (grow (wr.drewN nq) osq)) := S1.out.grown nq osq
          clear l2a l2b hc2 S1
          generalize grow (wr.drewN nq) osq = w2 at S2 ⊢
          clear nq osq
          clear ea2 ec2
          go_wp2
          go_roundg (r - (h + 1))
          case measure => omega
          case rel =>
            refine ⟨h + 1, r, by go_num, rfl, by omega, by omega, by omega, by omega, ⟨fun c h1 h2 => ?_⟩, HJ, S2⟩
            have h3 := HKL.out c h (by omega) (by omega) (by omega)
            have h4 := HKR.out q (pN - c) (by omega) (by have := HQ.out; omega) (by have := HAM.out.hp; have := HAM.out.hn; have := HAM.out.s5; omega)
            have := HF.out
            omega
      · have hltz : ¬ (s : Int) < (r : Int) := by omega
        obtain rfl : s = r := by omega
        obtain ⟨e, he⟩ : ∃ e, e = nN - s := ⟨_, rfl⟩
        have hez : (nN : Int) - (s : Int) = (e : Int) := by have := HAM.out.hn; omega
        have heb : e + s = mid + m ∧ m ≤ e ∧ e ≤ b := by have := HAM.out.hp; have := HAM.out.hn; have := HAM.out.s5; omega
        clear he
        obtain ⟨L1, hL1⟩ : ∃ q, q = L.take (s - a) := ⟨_, rfl⟩
        obtain ⟨L2, hL2⟩ : ∃ q, q = L.drop (s - a) := ⟨_, rfl⟩
        obtain ⟨R1, hR1⟩ : ∃ q, q = Rr.take (e - m) := ⟨_, rfl⟩
        obtain ⟨R2, hR2⟩ : ∃ q, q = Rr.drop (e - m) := ⟨_, rfl⟩
        have HX := Aside0.mk (sym_split kf L Rr (s - a) (e - m) HLS.out HRS.out HLR.out (by have := HLL.out; omega) (by have := HRL.out; omega)
          (by
            have hl := HLL.out; have hr := HRL.out; have h7 := HAM.out.s6; have hn := HAM.out.hn; have hp := HAM.out.hp; have h5 := HAM.out.s5
            by_cases h0 : s = s0
            · rcases h7 with h7 | h7
              · exact .inl (by omega)
              · exact .inr (.inl (by omega))
            · refine .inr (.inr ⟨by omega, by omega, ?_⟩)
              have := HI.out (s - 1) (by omega) (by omega)
              rw [← HDR.out (e - m) (by omega), ← HDL.out (s - a - 1) (by omega), show m + (e - m) = pN - (s - 1) by omega, show a + (s - a - 1) = s - 1 by omega]
              exact this)
          (by
            have hl := HLL.out; have hr := HRL.out; have h7 := HAM.out.s7; have hn := HAM.out.hn; have hp := HAM.out.hp; have h5 := HAM.out.s5
            by_cases h0 : s = mid
            · rcases h7 with h7 | h7
              · exact .inl (by omega)
              · exact .inr (.inl (by omega))
            · refine .inr (.inr ⟨by omega, by omega, ?_⟩)
              have := HJ.out s (by omega) (by omega)
              rw [← HDR.out (e - m - 1) (by omega), ← HDL.out (s - a) (by omega), show m + (e - m - 1) = pN - s by omega, show a + (s - a) = s by omega]
              exact this))
        have HS := Aside0.mk (show L1.Pairwise (Ord kf) ∧ L2.Pairwise (Ord kf) ∧ R1.Pairwise (Ord kf) ∧ R2.Pairwise (Ord kf) by
          rw [hL1, hL2, hR1, hR2]
          exact ⟨HLS.out.sublist (List.take_sublist _ _), HLS.out.sublist (List.drop_sublist _ _), HRS.out.sublist (List.take_sublist _ _), HRS.out.sublist (List.drop_sublist _ _)⟩)
        have S1' : Aside (SW eI w0 blk off (X ++ (L1 ++ L2) ++ (R1 ++ R2) ++ Y).toArray wr) := by
          have h0 := S1.out
          rw [HDK.out] at h0
          rw [hL1, hL2, hR1, hR2, List.take_append_drop, List.take_append_drop]
          exact h0
        have HL1 := Aside0.mk hL1
        have HL2 := Aside0.mk hL2
        have HR1 := Aside0.mk hR1
        have HR2 := Aside0.mk hR2
        clear S1 hL1 hL2 hR1 hR2
        have S1 : Aside _ := S1'
        clear S1'
        have HAM := Aside0.mk (And.intro heb (And.intro hss hrr))
        by_cases hA : a < s
        · by_cases hB : s < mid
          · by_cases hC : s < m
            · by_cases hD : e < b
              · first
                  | (exfalso; have := HAM.out; omega)
                  | skip
                    have f1 : (s : Int) < (m : Int) := by have := HAM.out; omega
                    have f2 : (m : Int) < (e : Int) := by have := HAM.out; omega
                    have f3 : (a : Int) < (s : Int) := by have := HAM.out; omega
                    have f4 : (s : Int) < (mid : Int) := by have := HAM.out; omega
                    have f5 : (mid : Int) < (e : Int) := by have := HAM.out; omega
                    have f6 : (e : Int) < (b : Int) := by have := HAM.out; omega
                    have hl1 : L1.length = s - a := by rw [HL1.out, List.length_take]; have := HLL.out; omega
                    have hl2 : L2.length = m - s := by rw [HL2.out, List.length_drop]; have := HLL.out; omega
                    have hr1 : R1.length = e - m := by rw [HR1.out, List.length_take]; have := HRL.out; omega
                    have hr2 : R2.length = b - e := by rw [HR2.out, List.length_drop]; have := HRL.out; omega
                    have HLN := Aside0.mk (And.intro hl1 (And.intro hl2 (And.intro hr1 hr2)))
                    clear hl1 hl2 hr1 hr2
                    have hrot := rotate_c g cb blk off cap N s m e d0 w0 wr (X ++ L1) L2 R1 (R2 ++ Y) R hs (by have h0 := HLN.out; have hx1 := HXA.out; have hx2 := HLL.out; have hx3 := HRL.out; have hx4 := HXL.out; have hx5 := HAM.out; have h1 := HXL.out; simp only [List.length_append]; omega) (by have h0 := S1.out; simpa [List.append_assoc] using h0) (by have h0 := HLN.out; have hx1 := HXA.out; have hx2 := HLL.out; have hx3 := HRL.out; have hx4 := HXL.out; have hx5 := HAM.out; have h1 := HXL.out; simp only [List.length_append]; omega) (by have h0 := HLN.out; have hx1 := HXA.out; have hx2 := HLL.out; have hx3 := HRL.out; have hx4 := HXL.out; have hx5 := HAM.out; have h1 := HXL.out; simp only [List.length_append]; omega) (by have h0 := HLN.out; have hx1 := HXA.out; have hx2 := HLL.out; have hx3 := HRL.out; have hx4 := HXL.out; have hx5 := HAM.out; have h1 := HXL.out; simp only [List.length_append]; omega) (by have h0 := HLN.out; have hx1 := HXA.out; have hx2 := HLL.out; have hx3 := HRL.out; have hx4 := HXL.out; have hx5 := HAM.out; omega) (by have h0 := HLN.out; have hx1 := HXA.out; have hx2 := HLL.out; have hx3 := HRL.out; have hx4 := HXL.out; have hx5 := HAM.out; omega) hsz
                    go_wp2_with (first | (go_at_call 124; with_reducible refine hrot.mono ?_; clear hrot; rintro e5 w5 ⟨rfl, hS5⟩) | (go_at_call 121; fail))
                    have S5 : Aside (SW eI w0 blk off (X ++ (L1 ++ R1) ++ (L2 ++ R2) ++ Y).toArray w5) := (show SW eI w0 blk off (X ++ (L1 ++ R1) ++ (L2 ++ R2) ++ Y).toArray w5 from by simpa [List.append_assoc] using hS5)
                    clear hS5 S1
                    have hrec1 := HIH.out w5 a s mid X L1 R1 (L2 ++ R2 ++ Y) (by have h0 := HLN.out; have hx1 := HXA.out; have hx2 := HLL.out; have hx3 := HRL.out; have hx4 := HXL.out; have hx5 := HAM.out; have := HLN2.out; omega) (by have h0 := HLN.out; have hx1 := HXA.out; have hx2 := HLL.out; have hx3 := HRL.out; have hx4 := HXL.out; have hx5 := HAM.out; omega) (by have h0 := HLN.out; have hx1 := HXA.out; have hx2 := HLL.out; have hx3 := HRL.out; have hx4 := HXL.out; have hx5 := HAM.out; omega) HS.out.1 HS.out.2.2.1 (fun l hl r hr => HLR.out l (by rw [HL1.out] at hl; exact List.mem_of_mem_take hl) r (by rw [HR1.out] at hr; exact List.mem_of_mem_take hr)) HXA.out (by have h0 := HLN.out; have hx1 := HXA.out; have hx2 := HLL.out; have hx3 := HRL.out; have hx4 := HXL.out; have hx5 := HAM.out; have := HXA.out; omega) (by have h0 := HLN.out; have hx1 := HXA.out; have hx2 := HLL.out; have hx3 := HRL.out; have hx4 := HXL.out; have hx5 := HAM.out; have := HXA.out; have := HAM.out; omega) (by have h0 := HLN.out; have hx1 := HXA.out; have hx2 := HLL.out; have hx3 := HRL.out; have hx4 := HXL.out; have hx5 := HAM.out; have h1 := HXL.out; simp only [List.length_append]; omega) (all4 HPX.out (fun x hx => HPL.out x (by rw [HL1.out] at hx; exact List.mem_of_mem_take hx)) (fun x hx => HPR.out x (by rw [HR1.out] at hx; exact List.mem_of_mem_take hx)) (all3 (fun x hx => HPL.out x (by rw [HL2.out] at hx; exact List.mem_of_mem_drop hx)) (fun x hx => HPR.out x (by rw [HR2.out] at hx; exact List.mem_of_mem_drop hx)) HPY.out)) (by have h0 := S5.out; simpa [List.append_assoc] using h0)
                    go_wp2_with (first | (go_at_call 121; with_reducible refine hrec1.mono ?_; clear hrec1; rintro e6 w6 ⟨rfl, M1, m1p, m1s, hS6⟩))
                    have S6 : Aside (SW eI w0 blk off (X ++ M1 ++ (L2 ++ R2) ++ Y).toArray w6) := (show SW eI w0 blk off (X ++ M1 ++ (L2 ++ R2) ++ Y).toArray w6 from by simpa [List.append_assoc] using hS6)
                    clear hS6 S5
                    have HM1 := Aside0.mk m1p; have HM1S := Aside0.mk m1s; clear m1p m1s
                    have HM1L := Aside0.mk (show M1.length = mid - a by have h0 := HM1.out.length_eq; rw [List.length_append] at h0; have h1 := HLN.out; have := HAM.out; omega)
                    have hrec2 := HIH.out w6 mid e b (X ++ M1) L2 R2 Y (by have h0 := HLN.out; have hx1 := HXA.out; have hx2 := HLL.out; have hx3 := HRL.out; have hx4 := HXL.out; have hx5 := HAM.out; have := HLN2.out; omega) (by have h0 := HLN.out; have hx1 := HXA.out; have hx2 := HLL.out; have hx3 := HRL.out; have hx4 := HXL.out; have hx5 := HAM.out; omega) (by have h0 := HLN.out; have hx1 := HXA.out; have hx2 := HLL.out; have hx3 := HRL.out; have hx4 := HXL.out; have hx5 := HAM.out; omega) HS.out.2.1 HS.out.2.2.2 (fun l hl r hr => HLR.out l (by rw [HL2.out] at hl; exact List.mem_of_mem_drop hl) r (by rw [HR2.out] at hr; exact List.mem_of_mem_drop hr)) (by have h0 := HM1L.out; have := HXA.out; have := HAM.out; simp only [List.length_append]; omega) (by have h0 := HM1L.out; have := HXA.out; have := HAM.out; have := HLN.out; simp only [List.length_append]; omega) (by have h0 := HM1L.out; have := HXA.out; have := HAM.out; have := HLN.out; simp only [List.length_append]; omega) (by have h0 := HLN.out; have hx1 := HXA.out; have hx2 := HLL.out; have hx3 := HRL.out; have hx4 := HXL.out; have hx5 := HAM.out; have h1 := HXL.out; have h2 := HM1L.out; have := HAM.out; simp only [List.length_append]; omega) (all4 (all2 HPX.out (fun x hx => by have h0 := HM1.out.mem_iff.1 hx; rw [HL1.out, HR1.out] at h0; rcases List.mem_append.1 h0 with h0 | h0; exact HPL.out x (List.mem_of_mem_take h0); exact HPR.out x (List.mem_of_mem_take h0))) (fun x hx => HPL.out x (by rw [HL2.out] at hx; exact List.mem_of_mem_drop hx)) (fun x hx => HPR.out x (by rw [HR2.out] at hx; exact List.mem_of_mem_drop hx)) HPY.out) (by have h0 := S6.out; simpa [List.append_assoc] using h0)
                    go_wp2_with (go_at_call 121; with_reducible refine hrec2.mono ?_; clear hrec2; rintro e7 w7 ⟨rfl, M2, m2p, m2s, hS7⟩)
                    go_end0
                    have m1p := HM1.out; rw [HL1.out, HR1.out] at m1p; rw [HL2.out, HR2.out] at m2p
                    have hj := sym_join HX.out m1p m2p HM1S.out m2s
                    exact ⟨rfl, M1 ++ M2, hj.1, hj.2, by have h0 := hS7; simpa [List.append_assoc] using h0⟩
              · first
                  | (exfalso; have := HAM.out; omega)
                  | skip
                    have f1 : (s : Int) < (m : Int) := by have := HAM.out; omega
                    have f2 : (m : Int) < (e : Int) := by have := HAM.out; omega
                    have f3 : (a : Int) < (s : Int) := by have := HAM.out; omega
                    have f4 : (s : Int) < (mid : Int) := by have := HAM.out; omega
                    have f5 : (mid : Int) < (e : Int) := by have := HAM.out; omega
                    have f6 : ¬ (e : Int) < (b : Int) := by have := HAM.out; omega
                    have hl1 : L1.length = s - a := by rw [HL1.out, List.length_take]; have := HLL.out; omega
                    have hl2 : L2.length = m - s := by rw [HL2.out, List.length_drop]; have := HLL.out; omega
                    have hr1 : R1.length = e - m := by rw [HR1.out, List.length_take]; have := HRL.out; omega
                    have hr2 : R2.length = b - e := by rw [HR2.out, List.length_drop]; have := HRL.out; omega
                    have HLN := Aside0.mk (And.intro hl1 (And.intro hl2 (And.intro hr1 hr2)))
                    clear hl1 hl2 hr1 hr2
                    have hrot := rotate_c g cb blk off cap N s m e d0 w0 wr (X ++ L1) L2 R1 (R2 ++ Y) R hs (by have h0 := HLN.out; have hx1 := HXA.out; have hx2 := HLL.out; have hx3 := HRL.out; have hx4 := HXL.out; have hx5 := HAM.out; have h1 := HXL.out; simp only [List.length_append]; omega) (by have h0 := S1.out; simpa [List.append_assoc] using h0) (by have h0 := HLN.out; have hx1 := HXA.out; have hx2 := HLL.out; have hx3 := HRL.out; have hx4 := HXL.out; have hx5 := HAM.out; have h1 := HXL.out; simp only [List.length_append]; omega) (by have h0 := HLN.out; have hx1 := HXA.out; have hx2 := HLL.out; have hx3 := HRL.out; have hx4 := HXL.out; have hx5 := HAM.out; have h1 := HXL.out; simp only [List.length_append]; omega) (by have h0 := HLN.out; have hx1 := HXA.out; have hx2 := HLL.out; have hx3 := HRL.out; have hx4 := HXL.out; have hx5 := HAM.out; have h1 := HXL.out; simp only [List.length_append]; omega) (by have h0 := HLN.out; have hx1 := HXA.out; have hx2 := HLL.out; have hx3 := HRL.out; have hx4 := HXL.out; have hx5 := HAM.out; omega) (by have h0 := HLN.out; have hx1 := HXA.out; have hx2 := HLL.out; have hx3 := HRL.out; have hx4 := HXL.out; have hx5 := HAM.out; omega) hsz
                    go_wp2_with (first | (go_at_call 124; with_reducible refine hrot.mono ?_; clear hrot; rintro e5 w5 ⟨rfl, hS5⟩) | (go_at_call 121; fail))
                    have S5 : Aside (SW eI w0 blk off (X ++ (L1 ++ R1) ++ (L2 ++ R2) ++ Y).toArray w5) := (show SW eI w0 blk off (X ++ (L1 ++ R1) ++ (L2 ++ R2) ++ Y).toArray w5 from by simpa [List.append_assoc] using hS5)
                    clear hS5 S1
                    have hrec1 := HIH.out w5 a s mid X L1 R1 (L2 ++ R2 ++ Y) (by have h0 := HLN.out; have hx1 := HXA.out; have hx2 := HLL.out; have hx3 := HRL.out; have hx4 := HXL.out; have hx5 := HAM.out; have := HLN2.out; omega) (by have h0 := HLN.out; have hx1 := HXA.out; have hx2 := HLL.out; have hx3 := HRL.out; have hx4 := HXL.out; have hx5 := HAM.out; omega) (by have h0 := HLN.out; have hx1 := HXA.out; have hx2 := HLL.out; have hx3 := HRL.out; have hx4 := HXL.out; have hx5 := HAM.out; omega) HS.out.1 HS.out.2.2.1 (fun l hl r hr => HLR.out l (by rw [HL1.out] at hl; exact List.mem_of_mem_take hl) r (by rw [HR1.out] at hr; exact List.mem_of_mem_take hr)) HXA.out (by have h0 := HLN.out; have hx1 := HXA.out; have hx2 := HLL.out; have hx3 := HRL.out; have hx4 := HXL.out; have hx5 := HAM.out; have := HXA.out; omega) (by have h0 := HLN.out; have hx1 := HXA.out; have hx2 := HLL.out; have hx3 := HRL.out; have hx4 := HXL.out; have hx5 := HAM.out; have := HXA.out; have := HAM.out; omega) (by have h0 := HLN.out; have hx1 := HXA.out; have hx2 := HLL.out; have hx3 := HRL.out; have hx4 := HXL.out; have hx5 := HAM.out; have h1 := HXL.out; simp only [List.length_append]; omega) (all4 HPX.out (fun x hx => HPL.out x (by rw [HL1.out] at hx; exact List.mem_of_mem_take hx)) (fun x hx => HPR.out x (by rw [HR1.out] at hx; exact List.mem_of_mem_take hx)) (all3 (fun x hx => HPL.out x (by rw [HL2.out] at hx; exact List.mem_of_mem_drop hx)) (fun x hx => HPR.out x (by rw [HR2.out] at hx; exact List.mem_of_mem_drop hx)) HPY.out)) (by have h0 := S5.out; simpa [List.append_assoc] using h0)
                    go_wp2_with (first | (go_at_call 121; with_reducible refine hrec1.mono ?_; clear hrec1; rintro e6 w6 ⟨rfl, M1, m1p, m1s, hS6⟩))
                    have S6 : Aside (SW eI w0 blk off (X ++ M1 ++ (L2 ++ R2) ++ Y).toArray w6) := (show SW eI w0 blk off (X ++ M1 ++ (L2 ++ R2) ++ Y).toArray w6 from by simpa [List.append_assoc] using hS6)
                    clear hS6 S5
                    have HM1 := Aside0.mk m1p; have HM1S := Aside0.mk m1s; clear m1p m1s
                    have HM1L := Aside0.mk (show M1.length = mid - a by have h0 := HM1.out.length_eq; rw [List.length_append] at h0; have h1 := HLN.out; have := HAM.out; omega)
                    obtain ⟨M2, hM2⟩ : ∃ M2, M2 = L2 ++ R2 := ⟨_, rfl⟩
                    have m2p : M2.Perm (L2 ++ R2) := by rw [hM2]
                    have m2s : M2.Pairwise (Ord kf) := by rw [hM2]; exact join_any HS.out.2.1 HS.out.2.2.2 (.inr (List.eq_nil_of_length_eq_zero (by have := HLN.out; omega)))
                    have HM2 := Aside0.mk hM2; clear hM2; have HM2P := Aside0.mk m2p; have HM2S := Aside0.mk m2s; clear m2p m2s
                    go_wp2
                    all_goals
                      go_end0
                      have m2p := HM2P.out; have m2s := HM2S.out
                      have m1p := HM1.out; rw [HL1.out, HR1.out] at m1p; rw [HL2.out, HR2.out] at m2p
                      have hj := sym_join HX.out m1p m2p HM1S.out m2s
                      exact ⟨rfl, M1 ++ M2, hj.1, hj.2, by have h0 := S6.out; rw [← HM2.out] at h0; simpa [List.append_assoc] using h0⟩
            · by_cases hD : e < b
              · first
                  | (exfalso; have := HAM.out; omega)
                  | skip
                    have f1 : ¬ (s : Int) < (m : Int) := by have := HAM.out; omega
                    have f2 : (m : Int) < (e : Int) := by have := HAM.out; omega
                    have f3 : (a : Int) < (s : Int) := by have := HAM.out; omega
                    have f4 : (s : Int) < (mid : Int) := by have := HAM.out; omega
                    have f5 : ¬ (mid : Int) < (e : Int) := by have := HAM.out; omega
                    have f6 : (e : Int) < (b : Int) := by have := HAM.out; omega
                    have hl1 : L1.length = s - a := by rw [HL1.out, List.length_take]; have := HLL.out; omega
                    have hl2 : L2.length = m - s := by rw [HL2.out, List.length_drop]; have := HLL.out; omega
                    have hr1 : R1.length = e - m := by rw [HR1.out, List.length_take]; have := HRL.out; omega
                    have hr2 : R2.length = b - e := by rw [HR2.out, List.length_drop]; have := HRL.out; omega
                    have HLN := Aside0.mk (And.intro hl1 (And.intro hl2 (And.intro hr1 hr2)))
                    clear hl1 hl2 hr1 hr2
                    have S5 : Aside (SW eI w0 blk off (X ++ (L1 ++ R1) ++ (L2 ++ R2) ++ Y).toArray wr) := (show SW eI w0 blk off (X ++ (L1 ++ R1) ++ (L2 ++ R2) ++ Y).toArray wr from by have h0 := S1.out; have h1 : L2 = [] := List.eq_nil_of_length_eq_zero (by have := HLN.out; omega); rw [h1] at h0 ⊢; simpa [List.append_assoc] using h0)
                    clear S1
                    have hrec1 := HIH.out wr a s mid X L1 R1 (L2 ++ R2 ++ Y) (by have h0 := HLN.out; have hx1 := HXA.out; have hx2 := HLL.out; have hx3 := HRL.out; have hx4 := HXL.out; have hx5 := HAM.out; have := HLN2.out; omega) (by have h0 := HLN.out; have hx1 := HXA.out; have hx2 := HLL.out; have hx3 := HRL.out; have hx4 := HXL.out; have hx5 := HAM.out; omega) (by have h0 := HLN.out; have hx1 := HXA.out; have hx2 := HLL.out; have hx3 := HRL.out; have hx4 := HXL.out; have hx5 := HAM.out; omega) HS.out.1 HS.out.2.2.1 (fun l hl r hr => HLR.out l (by rw [HL1.out] at hl; exact List.mem_of_mem_take hl) r (by rw [HR1.out] at hr; exact List.mem_of_mem_take hr)) HXA.out (by have h0 := HLN.out; have hx1 := HXA.out; have hx2 := HLL.out; have hx3 := HRL.out; have hx4 := HXL.out; have hx5 := HAM.out; have := HXA.out; omega) (by have h0 := HLN.out; have hx1 := HXA.out; have hx2 := HLL.out; have hx3 := HRL.out; have hx4 := HXL.out; have hx5 := HAM.out; have := HXA.out; have := HAM.out; omega) (by have h0 := HLN.out; have hx1 := HXA.out; have hx2 := HLL.out; have hx3 := HRL.out; have hx4 := HXL.out; have hx5 := HAM.out; have h1 := HXL.out; simp only [List.length_append]; omega) (all4 HPX.out (fun x hx => HPL.out x (by rw [HL1.out] at hx; exact List.mem_of_mem_take hx)) (fun x hx => HPR.out x (by rw [HR1.out] at hx; exact List.mem_of_mem_take hx)) (all3 (fun x hx => HPL.out x (by rw [HL2.out] at hx; exact List.mem_of_mem_drop hx)) (fun x hx => HPR.out x (by rw [HR2.out] at hx; exact List.mem_of_mem_drop hx)) HPY.out)) (by have h0 := S5.out; simpa [List.append_assoc] using h0)
                    go_wp2_with (first | (go_at_call 121; with_reducible refine hrec1.mono ?_; clear hrec1; rintro e6 w6 ⟨rfl, M1, m1p, m1s, hS6⟩))
                    have S6 : Aside (SW eI w0 blk off (X ++ M1 ++ (L2 ++ R2) ++ Y).toArray w6) := (show SW eI w0 blk off (X ++ M1 ++ (L2 ++ R2) ++ Y).toArray w6 from by simpa [List.append_assoc] using hS6)
                    clear hS6 S5
                    have HM1 := Aside0.mk m1p; have HM1S := Aside0.mk m1s; clear m1p m1s
                    have HM1L := Aside0.mk (show M1.length = mid - a by have h0 := HM1.out.length_eq; rw [List.length_append] at h0; have h1 := HLN.out; have := HAM.out; omega)
                    obtain ⟨M2, hM2⟩ : ∃ M2, M2 = L2 ++ R2 := ⟨_, rfl⟩
                    have m2p : M2.Perm (L2 ++ R2) := by rw [hM2]
                    have m2s : M2.Pairwise (Ord kf) := by rw [hM2]; exact join_any HS.out.2.1 HS.out.2.2.2 (.inl (List.eq_nil_of_length_eq_zero (by have := HLN.out; omega)))
                    have HM2 := Aside0.mk hM2; clear hM2; have HM2P := Aside0.mk m2p; have HM2S := Aside0.mk m2s; clear m2p m2s
                    go_wp2
                    all_goals
                      go_end0
                      have m2p := HM2P.out; have m2s := HM2S.out
                      have m1p := HM1.out; rw [HL1.out, HR1.out] at m1p; rw [HL2.out, HR2.out] at m2p
                      have hj := sym_join HX.out m1p m2p HM1S.out m2s
                      exact ⟨rfl, M1 ++ M2, hj.1, hj.2, by have h0 := S6.out; rw [← HM2.out] at h0; simpa [List.append_assoc] using h0⟩
              · first
                  | (exfalso; have := HAM.out; omega)
                  | skip
                    have f1 : ¬ (s : Int) < (m : Int) := by have := HAM.out; omega
                    have f2 : (m : Int) < (e : Int) := by have := HAM.out; omega
                    have f3 : (a : Int) < (s : Int) := by have := HAM.out; omega
                    have f4 : (s : Int) < (mid : Int) := by have := HAM.out; omega
                    have f5 : ¬ (mid : Int) < (e : Int) := by have := HAM.out; omega
                    have f6 : ¬ (e : Int) < (b : Int) := by have := HAM.out; omega
                    have hl1 : L1.length = s - a := by rw [HL1.out, List.length_take]; have := HLL.out; omega
                    have hl2 : L2.length = m - s := by rw [HL2.out, List.length_drop]; have := HLL.out; omega
                    have hr1 : R1.length = e - m := by rw [HR1.out, List.length_take]; have := HRL.out; omega
                    have hr2 : R2.length = b - e := by rw [HR2.out, List.length_drop]; have := HRL.out; omega
                    have HLN := Aside0.mk (And.intro hl1 (And.intro hl2 (And.intro hr1 hr2)))
                    clear hl1 hl2 hr1 hr2
                    have S5 : Aside (SW eI w0 blk off (X ++ (L1 ++ R1) ++ (L2 ++ R2) ++ Y).toArray wr) := (show SW eI w0 blk off (X ++ (L1 ++ R1) ++ (L2 ++ R2) ++ Y).toArray wr from by have h0 := S1.out; have h1 : L2 = [] := List.eq_nil_of_length_eq_zero (by have := HLN.out; omega); rw [h1] at h0 ⊢; simpa [List.append_assoc] using h0)
                    clear S1
                    have hrec1 := HIH.out wr a s mid X L1 R1 (L2 ++ R2 ++ Y) (by have h0 := HLN.out; have hx1 := HXA.out; have hx2 := HLL.out; have hx3 := HRL.out; have hx4 := HXL.out; have hx5 := HAM.out; have := HLN2.out; omega) (by have h0 := HLN.out; have hx1 := HXA.out; have hx2 := HLL.out; have hx3 := HRL.out; have hx4 := HXL.out; have hx5 := HAM.out; omega) (by have h0 := HLN.out; have hx1 := HXA.out; have hx2 := HLL.out; have hx3 := HRL.out; have hx4 := HXL.out; have hx5 := HAM.out; omega) HS.out.1 HS.out.2.2.1 (fun l hl r hr => HLR.out l (by rw [HL1.out] at hl; exact List.mem_of_mem_take hl) r (by rw [HR1.out] at hr; exact List.mem_of_mem_take hr)) HXA.out (by have h0 := HLN.out; have hx1 := HXA.out; have hx2 := HLL.out; have hx3 := HRL.out; have hx4 := HXL.out; have hx5 := HAM.out; have := HXA.out; omega) (by have h0 := HLN.out; have hx1 := HXA.out; have hx2 := HLL.out; have hx3 := HRL.out; have hx4 := HXL.out; have hx5 := HAM.out; have := HXA.out; have := HAM.out; omega) (by have h0 := HLN.out; have hx1 := HXA.out; have hx2 := HLL.out; have hx3 := HRL.out; have hx4 := HXL.out; have hx5 := HAM.out; have h1 := HXL.out; simp only [List.length_append]; omega) (all4 HPX.out (fun x hx => HPL.out x (by rw [HL1.out] at hx; exact List.mem_of_mem_take hx)) (fun x hx => HPR.out x (by rw [HR1.out] at hx; exact List.mem_of_mem_take hx)) (all3 (fun x hx => HPL.out x (by rw [HL2.out] at hx; exact List.mem_of_mem_drop hx)) (fun x hx => HPR.out x (by rw [HR2.out] at hx; exact List.mem_of_mem_drop hx)) HPY.out)) (by have h0 := S5.out; simpa [List.append_assoc] using h0)
                    go_wp2_with (first | (go_at_call 121; with_reducible refine hrec1.mono ?_; clear hrec1; rintro e6 w6 ⟨rfl, M1, m1p, m1s, hS6⟩))
                    have S6 : Aside (SW eI w0 blk off (X ++ M1 ++ (L2 ++ R2) ++ Y).toArray w6) := (show SW eI w0 blk off (X ++ M1 ++ (L2 ++ R2) ++ Y).toArray w6 from by simpa [List.append_assoc] using hS6)
                    clear hS6 S5
                    have HM1 := Aside0.mk m1p; have HM1S := Aside0.mk m1s; clear m1p m1s
                    have HM1L := Aside0.mk (show M1.length = mid - a by have h0 := HM1.out.length_eq; rw [List.length_append] at h0; have h1 := HLN.out; have := HAM.out; omega)
                    obtain ⟨M2, hM2⟩ : ∃ M2, M2 = L2 ++ R2 := ⟨_, rfl⟩
                    have m2p : M2.Perm (L2 ++ R2) := by rw [hM2]
                    have m2s : M2.Pairwise (Ord kf) := by rw [hM2]; exact join_any HS.out.2.1 HS.out.2.2.2 (.inl (List.eq_nil_of_length_eq_zero (by have := HLN.out; omega)))
                    have HM2 := Aside0.mk hM2; clear hM2; have HM2P := Aside0.mk m2p; have HM2S := Aside0.mk m2s; clear m2p m2s
                    go_wp2
                    all_goals
                      go_end0
                      have m2p := HM2P.out; have m2s := HM2S.out
                      have m1p := HM1.out; rw [HL1.out, HR1.out] at m1p; rw [HL2.out, HR2.out] at m2p
                      have hj := sym_join HX.out m1p m2p HM1S.out m2s
                      exact ⟨rfl, M1 ++ M2, hj.1, hj.2, by have h0 := S6.out; rw [← HM2.out] at h0; simpa [List.append_assoc] using h0⟩
          · by_cases hC : s < m
            · by_cases hD : e < b
              · first
                  | (exfalso; have := HAM.out; omega)
                  | skip
                    have f1 : (s : Int) < (m : Int) := by have := HAM.out; omega
                    have f2 : ¬ (m : Int) < (e : Int) := by have := HAM.out; omega
                    have f3 : (a : Int) < (s : Int) := by have := HAM.out; omega
                    have f4 : ¬ (s : Int) < (mid : Int) := by have := HAM.out; omega
                    have f5 : (mid : Int) < (e : Int) := by have := HAM.out; omega
                    have f6 : (e : Int) < (b : Int) := by have := HAM.out; omega
                    have hl1 : L1.length = s - a := by rw [HL1.out, List.length_take]; have := HLL.out; omega
                    have hl2 : L2.length = m - s := by rw [HL2.out, List.length_drop]; have := HLL.out; omega
                    have hr1 : R1.length = e - m := by rw [HR1.out, List.length_take]; have := HRL.out; omega
                    have hr2 : R2.length = b - e := by rw [HR2.out, List.length_drop]; have := HRL.out; omega
                    have HLN := Aside0.mk (And.intro hl1 (And.intro hl2 (And.intro hr1 hr2)))
                    clear hl1 hl2 hr1 hr2
                    have S5 : Aside (SW eI w0 blk off (X ++ (L1 ++ R1) ++ (L2 ++ R2) ++ Y).toArray wr) := (show SW eI w0 blk off (X ++ (L1 ++ R1) ++ (L2 ++ R2) ++ Y).toArray wr from by have h0 := S1.out; have h1 : R1 = [] := List.eq_nil_of_length_eq_zero (by have := HLN.out; omega); rw [h1] at h0 ⊢; simpa [List.append_assoc] using h0)
                    clear S1
                    obtain ⟨M1, hM1⟩ : ∃ M1, M1 = L1 ++ R1 := ⟨_, rfl⟩
                    have m1p : M1.Perm (L1 ++ R1) := by rw [hM1]
                    have m1s : M1.Pairwise (Ord kf) := by rw [hM1]; exact join_any HS.out.1 HS.out.2.2.1 (.inr (List.eq_nil_of_length_eq_zero (by have := HLN.out; omega)))
                    have S6 : Aside (SW eI w0 blk off (X ++ M1 ++ (L2 ++ R2) ++ Y).toArray wr) := by rw [hM1]; exact S5
                    clear S5 hM1
                    have HM1 := Aside0.mk m1p; have HM1S := Aside0.mk m1s; clear m1p m1s
                    have HM1L := Aside0.mk (show M1.length = mid - a by have h0 := HM1.out.length_eq; rw [List.length_append] at h0; have h1 := HLN.out; have := HAM.out; omega)
                    have hrec2 := HIH.out wr mid e b (X ++ M1) L2 R2 Y (by have h0 := HLN.out; have hx1 := HXA.out; have hx2 := HLL.out; have hx3 := HRL.out; have hx4 := HXL.out; have hx5 := HAM.out; have := HLN2.out; omega) (by have h0 := HLN.out; have hx1 := HXA.out; have hx2 := HLL.out; have hx3 := HRL.out; have hx4 := HXL.out; have hx5 := HAM.out; omega) (by have h0 := HLN.out; have hx1 := HXA.out; have hx2 := HLL.out; have hx3 := HRL.out; have hx4 := HXL.out; have hx5 := HAM.out; omega) HS.out.2.1 HS.out.2.2.2 (fun l hl r hr => HLR.out l (by rw [HL2.out] at hl; exact List.mem_of_mem_drop hl) r (by rw [HR2.out] at hr; exact List.mem_of_mem_drop hr)) (by have h0 := HM1L.out; have := HXA.out; have := HAM.out; simp only [List.length_append]; omega) (by have h0 := HM1L.out; have := HXA.out; have := HAM.out; have := HLN.out; simp only [List.length_append]; omega) (by have h0 := HM1L.out; have := HXA.out; have := HAM.out; have := HLN.out; simp only [List.length_append]; omega) (by have h0 := HLN.out; have hx1 := HXA.out; have hx2 := HLL.out; have hx3 := HRL.out; have hx4 := HXL.out; have hx5 := HAM.out; have h1 := HXL.out; have h2 := HM1L.out; have := HAM.out; simp only [List.length_append]; omega) (all4 (all2 HPX.out (fun x hx => by have h0 := HM1.out.mem_iff.1 hx; rw [HL1.out, HR1.out] at h0; rcases List.mem_append.1 h0 with h0 | h0; exact HPL.out x (List.mem_of_mem_take h0); exact HPR.out x (List.mem_of_mem_take h0))) (fun x hx => HPL.out x (by rw [HL2.out] at hx; exact List.mem_of_mem_drop hx)) (fun x hx => HPR.out x (by rw [HR2.out] at hx; exact List.mem_of_mem_drop hx)) HPY.out) (by have h0 := S6.out; simpa [List.append_assoc] using h0)
                    go_wp2_with (go_at_call 121; with_reducible refine hrec2.mono ?_; clear hrec2; rintro e7 w7 ⟨rfl, M2, m2p, m2s, hS7⟩)
                    go_end0
                    have m1p := HM1.out; rw [HL1.out, HR1.out] at m1p; rw [HL2.out, HR2.out] at m2p
                    have hj := sym_join HX.out m1p m2p HM1S.out m2s
                    exact ⟨rfl, M1 ++ M2, hj.1, hj.2, by have h0 := hS7; simpa [List.append_assoc] using h0⟩
              · exfalso; have := HAM.out; omega
            · by_cases hD : e < b
              · first
                  | (exfalso; have := HAM.out; omega)
                  | skip
                    have f1 : ¬ (s : Int) < (m : Int) := by have := HAM.out; omega
                    have f2 : ¬ (m : Int) < (e : Int) := by have := HAM.out; omega
                    have f3 : (a : Int) < (s : Int) := by have := HAM.out; omega
                    have f4 : ¬ (s : Int) < (mid : Int) := by have := HAM.out; omega
                    have f5 : ¬ (mid : Int) < (e : Int) := by have := HAM.out; omega
                    have f6 : (e : Int) < (b : Int) := by have := HAM.out; omega
                    have hl1 : L1.length = s - a := by rw [HL1.out, List.length_take]; have := HLL.out; omega
                    have hl2 : L2.length = m - s := by rw [HL2.out, List.length_drop]; have := HLL.out; omega
                    have hr1 : R1.length = e - m := by rw [HR1.out, List.length_take]; have := HRL.out; omega
                    have hr2 : R2.length = b - e := by rw [HR2.out, List.length_drop]; have := HRL.out; omega
                    have HLN := Aside0.mk (And.intro hl1 (And.intro hl2 (And.intro hr1 hr2)))
                    clear hl1 hl2 hr1 hr2
                    have S5 : Aside (SW eI w0 blk off (X ++ (L1 ++ R1) ++ (L2 ++ R2) ++ Y).toArray wr) := (show SW eI w0 blk off (X ++ (L1 ++ R1) ++ (L2 ++ R2) ++ Y).toArray wr from by have h0 := S1.out; have h1 : L2 = [] := List.eq_nil_of_length_eq_zero (by have := HLN.out; omega); rw [h1] at h0 ⊢; simpa [List.append_assoc] using h0)
                    clear S1
                    obtain ⟨M1, hM1⟩ : ∃ M1, M1 = L1 ++ R1 := ⟨_, rfl⟩
                    have m1p : M1.Perm (L1 ++ R1) := by rw [hM1]
                    have m1s : M1.Pairwise (Ord kf) := by rw [hM1]; exact join_any HS.out.1 HS.out.2.2.1 (.inr (List.eq_nil_of_length_eq_zero (by have := HLN.out; omega)))
                    have S6 : Aside (SW eI w0 blk off (X ++ M1 ++ (L2 ++ R2) ++ Y).toArray wr) := by rw [hM1]; exact S5
                    clear S5 hM1
                    have HM1 := Aside0.mk m1p; have HM1S := Aside0.mk m1s; clear m1p m1s
                    have HM1L := Aside0.mk (show M1.length = mid - a by have h0 := HM1.out.length_eq; rw [List.length_append] at h0; have h1 := HLN.out; have := HAM.out; omega)
                    obtain ⟨M2, hM2⟩ : ∃ M2, M2 = L2 ++ R2 := ⟨_, rfl⟩
                    have m2p : M2.Perm (L2 ++ R2) := by rw [hM2]
                    have m2s : M2.Pairwise (Ord kf) := by rw [hM2]; exact join_any HS.out.2.1 HS.out.2.2.2 (.inl (List.eq_nil_of_length_eq_zero (by have := HLN.out; omega)))
                    have HM2 := Aside0.mk hM2; clear hM2; have HM2P := Aside0.mk m2p; have HM2S := Aside0.mk m2s; clear m2p m2s
                    go_wp2
                    all_goals
                      go_end0
                      have m2p := HM2P.out; have m2s := HM2S.out
                      have m1p := HM1.out; rw [HL1.out, HR1.out] at m1p; rw [HL2.out, HR2.out] at m2p
                      have hj := sym_join HX.out m1p m2p HM1S.out m2s
                      exact ⟨rfl, M1 ++ M2, hj.1, hj.2, by have h0 := S6.out; rw [← HM2.out] at h0; simpa [List.append_assoc] using h0⟩
              · exfalso; have := HAM.out; omega
        · by_cases hB : s < mid
          · by_cases hC : s < m
            · by_cases hD : e < b
              · first
                  | (exfalso; have := HAM.out; omega)
                  | skip
                    have f1 : (s : Int) < (m : Int) := by have := HAM.out; omega
                    have f2 : (m : Int) < (e : Int) := by have := HAM.out; omega
                    have f3 : ¬ (a : Int) < (s : Int) := by have := HAM.out; omega
                    have f4 : (s : Int) < (mid : Int) := by have := HAM.out; omega
                    have f5 : (mid : Int) < (e : Int) := by have := HAM.out; omega
                    have f6 : (e : Int) < (b : Int) := by have := HAM.out; omega
                    have hl1 : L1.length = s - a := by rw [HL1.out, List.length_take]; have := HLL.out; omega
                    have hl2 : L2.length = m - s := by rw [HL2.out, List.length_drop]; have := HLL.out; omega
                    have hr1 : R1.length = e - m := by rw [HR1.out, List.length_take]; have := HRL.out; omega
                    have hr2 : R2.length = b - e := by rw [HR2.out, List.length_drop]; have := HRL.out; omega
                    have HLN := Aside0.mk (And.intro hl1 (And.intro hl2 (And.intro hr1 hr2)))
                    clear hl1 hl2 hr1 hr2
                    have hrot := rotate_c g cb blk off cap N s m e d0 w0 wr (X ++ L1) L2 R1 (R2 ++ Y) R hs (by have h0 := HLN.out; have hx1 := HXA.out; have hx2 := HLL.out; have hx3 := HRL.out; have hx4 := HXL.out; have hx5 := HAM.out; have h1 := HXL.out; simp only [List.length_append]; omega) (by have h0 := S1.out; simpa [List.append_assoc] using h0) (by have h0 := HLN.out; have hx1 := HXA.out; have hx2 := HLL.out; have hx3 := HRL.out; have hx4 := HXL.out; have hx5 := HAM.out; have h1 := HXL.out; simp only [List.length_append]; omega) (by have h0 := HLN.out; have hx1 := HXA.out; have hx2 := HLL.out; have hx3 := HRL.out; have hx4 := HXL.out; have hx5 := HAM.out; have h1 := HXL.out; simp only [List.length_append]; omega) (by have h0 := HLN.out; have hx1 := HXA.out; have hx2 := HLL.out; have hx3 := HRL.out; have hx4 := HXL.out; have hx5 := HAM.out; have h1 := HXL.out; simp only [List.length_append]; omega) (by have h0 := HLN.out; have hx1 := HXA.out; have hx2 := HLL.out; have hx3 := HRL.out; have hx4 := HXL.out; have hx5 := HAM.out; omega) (by have h0 := HLN.out; have hx1 := HXA.out; have hx2 := HLL.out; have hx3 := HRL.out; have hx4 := HXL.out; have hx5 := HAM.out; omega) hsz
                    go_wp2_with (first | (go_at_call 124; with_reducible refine hrot.mono ?_; clear hrot; rintro e5 w5 ⟨rfl, hS5⟩) | (go_at_call 121; fail))
                    have S5 : Aside (SW eI w0 blk off (X ++ (L1 ++ R1) ++ (L2 ++ R2) ++ Y).toArray w5) := (show SW eI w0 blk off (X ++ (L1 ++ R1) ++ (L2 ++ R2) ++ Y).toArray w5 from by simpa [List.append_assoc] using hS5)
                    clear hS5 S1
                    obtain ⟨M1, hM1⟩ : ∃ M1, M1 = L1 ++ R1 := ⟨_, rfl⟩
                    have m1p : M1.Perm (L1 ++ R1) := by rw [hM1]
                    have m1s : M1.Pairwise (Ord kf) := by rw [hM1]; exact join_any HS.out.1 HS.out.2.2.1 (.inl (List.eq_nil_of_length_eq_zero (by have := HLN.out; omega)))
                    have S6 : Aside (SW eI w0 blk off (X ++ M1 ++ (L2 ++ R2) ++ Y).toArray w5) := by rw [hM1]; exact S5
                    clear S5 hM1
                    have HM1 := Aside0.mk m1p; have HM1S := Aside0.mk m1s; clear m1p m1s
                    have HM1L := Aside0.mk (show M1.length = mid - a by have h0 := HM1.out.length_eq; rw [List.length_append] at h0; have h1 := HLN.out; have := HAM.out; omega)
                    have hrec2 := HIH.out w5 mid e b (X ++ M1) L2 R2 Y (by have h0 := HLN.out; have hx1 := HXA.out; have hx2 := HLL.out; have hx3 := HRL.out; have hx4 := HXL.out; have hx5 := HAM.out; have := HLN2.out; omega) (by have h0 := HLN.out; have hx1 := HXA.out; have hx2 := HLL.out; have hx3 := HRL.out; have hx4 := HXL.out; have hx5 := HAM.out; omega) (by have h0 := HLN.out; have hx1 := HXA.out; have hx2 := HLL.out; have hx3 := HRL.out; have hx4 := HXL.out; have hx5 := HAM.out; omega) HS.out.2.1 HS.out.2.2.2 (fun l hl r hr => HLR.out l (by rw [HL2.out] at hl; exact List.mem_of_mem_drop hl) r (by rw [HR2.out] at hr; exact List.mem_of_mem_drop hr)) (by have h0 := HM1L.out; have := HXA.out; have := HAM.out; simp only [List.length_append]; omega) (by have h0 := HM1L.out; have := HXA.out; have := HAM.out; have := HLN.out; simp only [List.length_append]; omega) (by have h0 := HM1L.out; have := HXA.out; have := HAM.out; have := HLN.out; simp only [List.length_append]; omega) (by have h0 := HLN.out; have hx1 := HXA.out; have hx2 := HLL.out; have hx3 := HRL.out; have hx4 := HXL.out; have hx5 := HAM.out; have h1 := HXL.out; have h2 := HM1L.out; have := HAM.out; simp only [List.length_append]; omega) (all4 (all2 HPX.out (fun x hx => by have h0 := HM1.out.mem_iff.1 hx; rw [HL1.out, HR1.out] at h0; rcases List.mem_append.1 h0 with h0 | h0; exact HPL.out x (List.mem_of_mem_take h0); exact HPR.out x (List.mem_of_mem_take h0))) (fun x hx => HPL.out x (by rw [HL2.out] at hx; exact List.mem_of_mem_drop hx)) (fun x hx => HPR.out x (by rw [HR2.out] at hx; exact List.mem_of_mem_drop hx)) HPY.out) (by have h0 := S6.out; simpa [List.append_assoc] using h0)
                    go_wp2_with (go_at_call 121; with_reducible refine hrec2.mono ?_; clear hrec2; rintro e7 w7 ⟨rfl, M2, m2p, m2s, hS7⟩)
                    go_end0
                    have m1p := HM1.out; rw [HL1.out, HR1.out] at m1p; rw [HL2.out, HR2.out] at m2p
                    have hj := sym_join HX.out m1p m2p HM1S.out m2s
                    exact ⟨rfl, M1 ++ M2, hj.1, hj.2, by have h0 := hS7; simpa [List.append_assoc] using h0⟩
              · first
                  | (exfalso; have := HAM.out; omega)
                  | skip
                    have f1 : (s : Int) < (m : Int) := by have := HAM.out; omega
                    have f2 : (m : Int) < (e : Int) := by have := HAM.out; omega
                    have f3 : ¬ (a : Int) < (s : Int) := by have := HAM.out; omega
                    have f4 : (s : Int) < (mid : Int) := by have := HAM.out; omega
                    have f5 : (mid : Int) < (e : Int) := by have := HAM.out; omega
                    have f6 : ¬ (e : Int) < (b : Int) := by have := HAM.out; omega
                    have hl1 : L1.length = s - a := by rw [HL1.out, List.length_take]; have := HLL.out; omega
                    have hl2 : L2.length = m - s := by rw [HL2.out, List.length_drop]; have := HLL.out; omega
                    have hr1 : R1.length = e - m := by rw [HR1.out, List.length_take]; have := HRL.out; omega
                    have hr2 : R2.length = b - e := by rw [HR2.out, List.length_drop]; have := HRL.out; omega
                    have HLN := Aside0.mk (And.intro hl1 (And.intro hl2 (And.intro hr1 hr2)))
                    clear hl1 hl2 hr1 hr2
                    have hrot := rotate_c g cb blk off cap N s m e d0 w0 wr (X ++ L1) L2 R1 (R2 ++ Y) R hs (by have h0 := HLN.out; have hx1 := HXA.out; have hx2 := HLL.out; have hx3 := HRL.out; have hx4 := HXL.out; have hx5 := HAM.out; have h1 := HXL.out; simp only [List.length_append]; omega) (by have h0 := S1.out; simpa [List.append_assoc] using h0) (by have h0 := HLN.out; have hx1 := HXA.out; have hx2 := HLL.out; have hx3 := HRL.out; have hx4 := HXL.out; have hx5 := HAM.out; have h1 := HXL.out; simp only [List.length_append]; omega) (by have h0 := HLN.out; have hx1 := HXA.out; have hx2 := HLL.out; have hx3 := HRL.out; have hx4 := HXL.out; have hx5 := HAM.out; have h1 := HXL.out; simp only [List.length_append]; omega) (by have h0 := HLN.out; have hx1 := HXA.out; have hx2 := HLL.out; have hx3 := HRL.out; have hx4 := HXL.out; have hx5 := HAM.out; have h1 := HXL.out; simp only [List.length_append]; omega) (by have h0 := HLN.out; have hx1 := HXA.out; have hx2 := HLL.out; have hx3 := HRL.out; have hx4 := HXL.out; have hx5 := HAM.out; omega) (by have h0 := HLN.out; have hx1 := HXA.out; have hx2 := HLL.out; have hx3 := HRL.out; have hx4 := HXL.out; have hx5 := HAM.out; omega) hsz
                    go_wp2_with (go_at_call 124; with_reducible refine hrot.mono ?_; clear hrot; rintro e5 w5 ⟨rfl, hS5⟩)
                    have S5 : Aside (SW eI w0 blk off (X ++ (L1 ++ R1) ++ (L2 ++ R2) ++ Y).toArray w5) := (show SW eI w0 blk off (X ++ (L1 ++ R1) ++ (L2 ++ R2) ++ Y).toArray w5 from by simpa [List.append_assoc] using hS5)
                    clear hS5 S1
                    obtain ⟨M1, hM1⟩ : ∃ M1, M1 = L1 ++ R1 := ⟨_, rfl⟩
                    have m1p : M1.Perm (L1 ++ R1) := by rw [hM1]
                    have m1s : M1.Pairwise (Ord kf) := by rw [hM1]; exact join_any HS.out.1 HS.out.2.2.1 (.inl (List.eq_nil_of_length_eq_zero (by have := HLN.out; omega)))
                    have S6 : Aside (SW eI w0 blk off (X ++ M1 ++ (L2 ++ R2) ++ Y).toArray w5) := by rw [hM1]; exact S5
                    clear S5 hM1
                    have HM1 := Aside0.mk m1p; have HM1S := Aside0.mk m1s; clear m1p m1s
                    have HM1L := Aside0.mk (show M1.length = mid - a by have h0 := HM1.out.length_eq; rw [List.length_append] at h0; have h1 := HLN.out; have := HAM.out; omega)
                    obtain ⟨M2, hM2⟩ : ∃ M2, M2 = L2 ++ R2 := ⟨_, rfl⟩
                    have m2p : M2.Perm (L2 ++ R2) := by rw [hM2]
                    have m2s : M2.Pairwise (Ord kf) := by rw [hM2]; exact join_any HS.out.2.1 HS.out.2.2.2 (.inr (List.eq_nil_of_length_eq_zero (by have := HLN.out; omega)))
                    have HM2 := Aside0.mk hM2; clear hM2; have HM2P := Aside0.mk m2p; have HM2S := Aside0.mk m2s; clear m2p m2s
                    go_wp2
                    all_goals
                      go_end0
                      have m2p := HM2P.out; have m2s := HM2S.out
                      have m1p := HM1.out; rw [HL1.out, HR1.out] at m1p; rw [HL2.out, HR2.out] at m2p
                      have hj := sym_join HX.out m1p m2p HM1S.out m2s
                      exact ⟨rfl, M1 ++ M2, hj.1, hj.2, by have h0 := S6.out; rw [← HM2.out] at h0; simpa [List.append_assoc] using h0⟩
            · by_cases hD : e < b
              · exfalso; have := HAM.out; omega
              · exfalso; have := HAM.out; omega
          · by_cases hC : s < m
            · by_cases hD : e < b
              · first
                  | (exfalso; have := HAM.out; omega)
                  | skip
                    have f1 : (s : Int) < (m : Int) := by have := HAM.out; omega
                    have f2 : ¬ (m : Int) < (e : Int) := by have := HAM.out; omega
                    have f3 : ¬ (a : Int) < (s : Int) := by have := HAM.out; omega
                    have f4 : ¬ (s : Int) < (mid : Int) := by have := HAM.out; omega
                    have f5 : (mid : Int) < (e : Int) := by have := HAM.out; omega
                    have f6 : (e : Int) < (b : Int) := by have := HAM.out; omega
                    have hl1 : L1.length = s - a := by rw [HL1.out, List.length_take]; have := HLL.out; omega
                    have hl2 : L2.length = m - s := by rw [HL2.out, List.length_drop]; have := HLL.out; omega
                    have hr1 : R1.length = e - m := by rw [HR1.out, List.length_take]; have := HRL.out; omega
                    have hr2 : R2.length = b - e := by rw [HR2.out, List.length_drop]; have := HRL.out; omega
                    have HLN := Aside0.mk (And.intro hl1 (And.intro hl2 (And.intro hr1 hr2)))
                    clear hl1 hl2 hr1 hr2
                    have S5 : Aside (SW eI w0 blk off (X ++ (L1 ++ R1) ++ (L2 ++ R2) ++ Y).toArray wr) := (show SW eI w0 blk off (X ++ (L1 ++ R1) ++ (L2 ++ R2) ++ Y).toArray wr from by have h0 := S1.out; have h1 : R1 = [] := List.eq_nil_of_length_eq_zero (by have := HLN.out; omega); rw [h1] at h0 ⊢; simpa [List.append_assoc] using h0)
                    clear S1
                    obtain ⟨M1, hM1⟩ : ∃ M1, M1 = L1 ++ R1 := ⟨_, rfl⟩
                    have m1p : M1.Perm (L1 ++ R1) := by rw [hM1]
                    have m1s : M1.Pairwise (Ord kf) := by rw [hM1]; exact join_any HS.out.1 HS.out.2.2.1 (.inl (List.eq_nil_of_length_eq_zero (by have := HLN.out; omega)))
                    have S6 : Aside (SW eI w0 blk off (X ++ M1 ++ (L2 ++ R2) ++ Y).toArray wr) := by rw [hM1]; exact S5
                    clear S5 hM1
                    have HM1 := Aside0.mk m1p; have HM1S := Aside0.mk m1s; clear m1p m1s
                    have HM1L := Aside0.mk (show M1.length = mid - a by have h0 := HM1.out.length_eq; rw [List.length_append] at h0; have h1 := HLN.out; have := HAM.out; omega)
                    have hrec2 := HIH.out wr mid e b (X ++ M1) L2 R2 Y (by have h0 := HLN.out; have hx1 := HXA.out; have hx2 := HLL.out; have hx3 := HRL.out; have hx4 := HXL.out; have hx5 := HAM.out; have := HLN2.out; omega) (by have h0 := HLN.out; have hx1 := HXA.out; have hx2 := HLL.out; have hx3 := HRL.out; have hx4 := HXL.out; have hx5 := HAM.out; omega) (by have h0 := HLN.out; have hx1 := HXA.out; have hx2 := HLL.out; have hx3 := HRL.out; have hx4 := HXL.out; have hx5 := HAM.out; omega) HS.out.2.1 HS.out.2.2.2 (fun l hl r hr => HLR.out l (by rw [HL2.out] at hl; exact List.mem_of_mem_drop hl) r (by rw [HR2.out] at hr; exact List.mem_of_mem_drop hr)) (by have h0 := HM1L.out; have := HXA.out; have := HAM.out; simp only [List.length_append]; omega) (by have h0 := HM1L.out; have := HXA.out; have := HAM.out; have := HLN.out; simp only [List.length_append]; omega) (by have h0 := HM1L.out; have := HXA.out; have := HAM.out; have := HLN.out; simp only [List.length_append]; omega) (by have h0 := HLN.out; have hx1 := HXA.out; have hx2 := HLL.out; have hx3 := HRL.out; have hx4 := HXL.out; have hx5 := HAM.out; have h1 := HXL.out; have h2 := HM1L.out; have := HAM.out; simp only [List.length_append]; omega) (all4 (all2 HPX.out (fun x hx => by have h0 := HM1.out.mem_iff.1 hx; rw [HL1.out, HR1.out] at h0; rcases List.mem_append.1 h0 with h0 | h0; exact HPL.out x (List.mem_of_mem_take h0); exact HPR.out x (List.mem_of_mem_take h0))) (fun x hx => HPL.out x (by rw [HL2.out] at hx; exact List.mem_of_mem_drop hx)) (fun x hx => HPR.out x (by rw [HR2.out] at hx; exact List.mem_of_mem_drop hx)) HPY.out) (by have h0 := S6.out; simpa [List.append_assoc] using h0)
                    go_wp2_with (go_at_call 121; with_reducible refine hrec2.mono ?_; clear hrec2; rintro e7 w7 ⟨rfl, M2, m2p, m2s, hS7⟩)
                    go_end0
                    have m1p := HM1.out; rw [HL1.out, HR1.out] at m1p; rw [HL2.out, HR2.out] at m2p
                    have hj := sym_join HX.out m1p m2p HM1S.out m2s
                    exact ⟨rfl, M1 ++ M2, hj.1, hj.2, by have h0 := hS7; simpa [List.append_assoc] using h0⟩
              · exfalso; have := HAM.out; omega
            · by_cases hD : e < b
              · exfalso; have := HAM.out; omega
              · exfalso; have := HAM.out; omega
  · have hc1z : ¬ (mid : Int) < (m : Int) := by omega
    obtain rfl : a = s0 := hc2.symm
    obtain rfl : m = r0 := hc3.symm
    go_enter Try.func121, Try.ntmps121
    go_wp2
    go_loopg [20, 21] (m - a) (fun kx s20 s21 wr => ∃ (s r : Nat), s20 = .int .i64 s ∧ s21 = .int .i64 r ∧ a ≤ s ∧ s ≤ r ∧ r ≤ m ∧ r - s ≤ kx ∧ Aside0 (∀ c, a ≤ c → c < s → ¬ kf dk[pN - c]! < kf dk[c]!) ∧ Aside0 (∀ c, r ≤ c → c < m → kf dk[pN - c]! < kf dk[c]!) ∧ Aside (SW eI w0 blk off dk wr))
    case atStart => exact ⟨a, m, rfl, rfl, by omega, by omega, by omega, by omega, ⟨fun c h1 h2 => by omega⟩, ⟨fun c h1 h2 => by omega⟩, S0⟩
    case round =>
      clear S0
      obtain ⟨s, r, rfl, rfl, hss, hsr, hrr, hkx, HI, HJ, S1⟩ := hrel
      by_cases hlt : s < r
      · have hltz : (s : Int) < (r : Int) := by omega
        obtain ⟨h, hh⟩ : ∃ h : Nat, h = (s + r) / 2 := ⟨_, rfl⟩
        have hhz : ((s : Int) + (r : Int)) / 2 = (h : Int) := by omega
        have hhb : a ≤ h ∧ s ≤ h ∧ h < r := by omega
        have HH := Aside0.mk hh
        clear hh
        obtain ⟨q, hq⟩ : ∃ q, q = pN - h := ⟨_, rfl⟩
        have hqz : (pN : Int) - (h : Int) = (q : Int) := by have := HAM.out.hp; have := HAM.out.hn; omega
        have hqb : m ≤ q ∧ q < b := by have := HAM.out.hp; have := HAM.out.hn; have := HAM.out.s5; omega
        have HQ := Aside0.mk hq
        have HT := Aside0.mk (cfK_lt kf dk[q]! dk[h]!)
        clear hq
        by_cases hcf : cfK kf dk[q]! dk[h]! < 0
        · have HF := Aside0.mk (HT.out.1 hcf)
          obtain ⟨iN1, hiN1⟩ : ∃ qq, qq = q := ⟨_, rfl⟩
          obtain ⟨jN1, hjN1⟩ : ∃ qq, qq = h := ⟨_, rfl⟩
          have ea1 : ((q : Int)).toNat = iN1 := by omega
          have pa1 : (0 : Int) ≤ (q : Int) := by omega
          have ba1 : (q : Int) < (N : Int) := by omega
          have ec1 : ((h : Int)).toNat = jN1 := by omega
          have pc1 : (0 : Int) ≤ (h : Int) := by omega
          have bc1 : (h : Int) < (N : Int) := by omega
          have ra1 : IntKind.i64.wrap ((q : Int)) = (q : Int) := by rw [IntKind.wrap_i64]; omega
          have rc1 : IntKind.i64.wrap ((h : Int)) = (h : Int) := by rw [IntKind.wrap_i64]; omega
          obtain ⟨x1, hx1⟩ : ∃ x, x = dk[q]! := ⟨_, rfl⟩
          obtain ⟨y1, hy1⟩ : ∃ x, x = dk[h]! := ⟨_, rfl⟩
          have l1a := S1.out.cl R (by rw [hds, hs]) (q) (by omega)
          have l1b := S1.out.cl R (by rw [hds, hs]) (h) (by omega)
          rw [← hx1, ← hiN1] at l1a
          rw [← hy1, ← hjN1] at l1b
          have hc1 := sw_cmpOn S1.out HC.out hds x1 y1 (by rw [hx1]; exact HALL.out (q) (by omega)) (by rw [hy1]; exact HALL.out (h) (by omega))
          have hv1 : cfK kf x1 y1 < 0 := by rw [hx1, hy1]; exact hcf
          have hd1 : decide (cfK kf x1 y1 < 0) = true := decide_eq_true hv1
          clear hx1 hy1 hiN1 hjN1 hcf
          go_wp2_with fail
          go_quiet_grown (first | (go_at_fn g; refine Calls.grown_of (hc1 _ _)))
          have S2 : Aside (SW eI w0 blk off dk (grow (wr.drewN nq) osq)) := S1.out.grown nq osq
          clear l1a l1b hc1 S1
          generalize grow (wr.drewN nq) osq = w2 at S2 ⊢
          clear nq osq
          clear ea1 ec1
          go_wp2
          go_roundg (h - s)
          case measure => omega
          case rel =>
            refine ⟨s, h, rfl, rfl, by omega, by omega, by omega, by omega, HI, ⟨fun c h1 h2 => ?_⟩, S2⟩
            have h3 := HKL.out h c (by omega) h1 (by omega)
            have h4 := HKR.out (pN - c) q (by have := HAM.out.hp; have := HAM.out.hn; omega) (by have := HQ.out; omega) (by omega)
            have := HF.out
            omega
        · have HF := Aside0.mk (show ¬ kf dk[q]! < kf dk[h]! from fun h => hcf (HT.out.2 h))
          obtain ⟨iN2, hiN2⟩ : ∃ qq, qq = q := ⟨_, rfl⟩
          obtain ⟨jN2, hjN2⟩ : ∃ qq, qq = h := ⟨_, rfl⟩
          have ea2 : ((q : Int)).toNat = iN2 := by omega
          have pa2 : (0 : Int) ≤ (q : Int) := by omega
          have ba2 : (q : Int) < (N : Int) := by omega
          have ec2 : ((h : Int)).toNat = jN2 := by omega
          have pc2 : (0 : Int) ≤ (h : Int) := by omega
          have bc2 : (h : Int) < (N : Int) := by omega
          have ra2 : IntKind.i64.wrap ((q : Int)) = (q : Int) := by rw [IntKind.wrap_i64]; omega
          have rc2 : IntKind.i64.wrap ((h : Int)) = (h : Int) := by rw [IntKind.wrap_i64]; omega
          obtain ⟨x2, hx2⟩ : ∃ x, x = dk[q]! := ⟨_, rfl⟩
          obtain ⟨y2, hy2⟩ : ∃ x, x = dk[h]! := ⟨_, rfl⟩
          have l2a := S1.out.cl R (by rw [hds, hs]) (q) (by omega)
          have l2b := S1.out.cl R (by rw [hds, hs]) (h) (by omega)
          rw [← hx2, ← hiN2] at l2a
          rw [← hy2, ← hjN2] at l2b
          have hc2 := sw_cmpOn S1.out HC.out hds x2 y2 (by rw [hx2]; exact HALL.out (q) (by omega)) (by rw [hy2]; exact HALL.out (h) (by omega))
          have hv2 : ¬ cfK kf x2 y2 < 0 := by rw [hx2, hy2]; exact hcf
          have hd2 : decide (cfK kf x2 y2 < 0) = false := decide_eq_false hv2
          clear hx2 hy2 hiN2 hjN2 hcf
          go_wp2_with fail
          go_quiet_grown (first | (go_at_fn g; refine Calls.grown_of (hc2 _ _)))
          have S2 : Aside (SW eI w0 blk off dk (grow (wr.drewN nq) osq)) := S1.out.grown nq osq
          clear l2a l2b hc2 S1
          generalize grow (wr.drewN nq) osq = w2 at S2 ⊢
          clear nq osq
          clear ea2 ec2
          go_wp2
          go_roundg (r - (h + 1))
          case measure => omega
          case rel =>
            refine ⟨h + 1, r, by go_num, rfl, by omega, by omega, by omega, by omega, ⟨fun c h1 h2 => ?_⟩, HJ, S2⟩
            have h3 := HKL.out c h (by omega) (by omega) (by omega)
            have h4 := HKR.out q (pN - c) (by omega) (by have := HQ.out; omega) (by have := HAM.out.hp; have := HAM.out.hn; have := HAM.out.s5; omega)
            have := HF.out
            omega
      · have hltz : ¬ (s : Int) < (r : Int) := by omega
        obtain rfl : s = r := by omega
        obtain ⟨e, he⟩ : ∃ e, e = nN - s := ⟨_, rfl⟩
        have hez : (nN : Int) - (s : Int) = (e : Int) := by have := HAM.out.hn; omega
        have heb : e + s = mid + m ∧ m ≤ e ∧ e ≤ b := by have := HAM.out.hp; have := HAM.out.hn; have := HAM.out.s5; omega
        clear he
        obtain ⟨L1, hL1⟩ : ∃ q, q = L.take (s - a) := ⟨_, rfl⟩
        obtain ⟨L2, hL2⟩ : ∃ q, q = L.drop (s - a) := ⟨_, rfl⟩
        obtain ⟨R1, hR1⟩ : ∃ q, q = Rr.take (e - m) := ⟨_, rfl⟩
        obtain ⟨R2, hR2⟩ : ∃ q, q = Rr.drop (e - m) := ⟨_, rfl⟩
        have HX := Aside0.mk (sym_split kf L Rr (s - a) (e - m) HLS.out HRS.out HLR.out (by have := HLL.out; omega) (by have := HRL.out; omega)
          (by
            have hl := HLL.out; have hr := HRL.out; have h7 := HAM.out.s6; have hn := HAM.out.hn; have hp := HAM.out.hp; have h5 := HAM.out.s5
            by_cases h0 : s = a
            · rcases h7 with h7 | h7
              · exact .inl (by omega)
              · exact .inr (.inl (by omega))
            · refine .inr (.inr ⟨by omega, by omega, ?_⟩)
              have := HI.out (s - 1) (by omega) (by omega)
              rw [← HDR.out (e - m) (by omega), ← HDL.out (s - a - 1) (by omega), show m + (e - m) = pN - (s - 1) by omega, show a + (s - a - 1) = s - 1 by omega]
              exact this)
          (by
            have hl := HLL.out; have hr := HRL.out; have h7 := HAM.out.s7; have hn := HAM.out.hn; have hp := HAM.out.hp; have h5 := HAM.out.s5
            by_cases h0 : s = m
            · rcases h7 with h7 | h7
              · exact .inl (by omega)
              · exact .inr (.inl (by omega))
            · refine .inr (.inr ⟨by omega, by omega, ?_⟩)
              have := HJ.out s (by omega) (by omega)
              rw [← HDR.out (e - m - 1) (by omega), ← HDL.out (s - a) (by omega), show m + (e - m - 1) = pN - s by omega, show a + (s - a) = s by omega]
              exact this))
        have HS := Aside0.mk (show L1.Pairwise (Ord kf) ∧ L2.Pairwise (Ord kf) ∧ R1.Pairwise (Ord kf) ∧ R2.Pairwise (Ord kf) by
          rw [hL1, hL2, hR1, hR2]
          exact ⟨HLS.out.sublist (List.take_sublist _ _), HLS.out.sublist (List.drop_sublist _ _), HRS.out.sublist (List.take_sublist _ _), HRS.out.sublist (List.drop_sublist _ _)⟩)
        have S1' : Aside (SW eI w0 blk off (X ++ (L1 ++ L2) ++ (R1 ++ R2) ++ Y).toArray wr) := by
          have h0 := S1.out
          rw [HDK.out] at h0
          rw [hL1, hL2, hR1, hR2, List.take_append_drop, List.take_append_drop]
          exact h0
        have HL1 := Aside0.mk hL1
        have HL2 := Aside0.mk hL2
        have HR1 := Aside0.mk hR1
        have HR2 := Aside0.mk hR2
        clear S1 hL1 hL2 hR1 hR2
        have S1 : Aside _ := S1'
        clear S1'
        have HAM := Aside0.mk (And.intro heb (And.intro hss hrr))
        by_cases hA : a < s
        · by_cases hB : s < mid
          · by_cases hC : s < m
            · by_cases hD : e < b
              · first
                  | (exfalso; have := HAM.out; omega)
                  | skip
                    have f1 : (s : Int) < (m : Int) := by have := HAM.out; omega
                    have f2 : (m : Int) < (e : Int) := by have := HAM.out; omega
                    have f3 : (a : Int) < (s : Int) := by have := HAM.out; omega
                    have f4 : (s : Int) < (mid : Int) := by have := HAM.out; omega
                    have f5 : (mid : Int) < (e : Int) := by have := HAM.out; omega
                    have f6 : (e : Int) < (b : Int) := by have := HAM.out; omega
                    have hl1 : L1.length = s - a := by rw [HL1.out, List.length_take]; have := HLL.out; omega
                    have hl2 : L2.length = m - s := by rw [HL2.out, List.length_drop]; have := HLL.out; omega
                    have hr1 : R1.length = e - m := by rw [HR1.out, List.length_take]; have := HRL.out; omega
                    have hr2 : R2.length = b - e := by rw [HR2.out, List.length_drop]; have := HRL.out; omega
                    have HLN := Aside0.mk (And.intro hl1 (And.intro hl2 (And.intro hr1 hr2)))
                    clear hl1 hl2 hr1 hr2
                    have hrot := rotate_c g cb blk off cap N s m e d0 w0 wr (X ++ L1) L2 R1 (R2 ++ Y) R hs (by have h0 := HLN.out; have hx1 := HXA.out; have hx2 := HLL.out; have hx3 := HRL.out; have hx4 := HXL.out; have hx5 := HAM.out; have h1 := HXL.out; simp only [List.length_append]; omega) (by have h0 := S1.out; simpa [List.append_assoc] using h0) (by have h0 := HLN.out; have hx1 := HXA.out; have hx2 := HLL.out; have hx3 := HRL.out; have hx4 := HXL.out; have hx5 := HAM.out; have h1 := HXL.out; simp only [List.length_append]; omega) (by have h0 := HLN.out; have hx1 := HXA.out; have hx2 := HLL.out; have hx3 := HRL.out; have hx4 := HXL.out; have hx5 := HAM.out; have h1 := HXL.out; simp only [List.length_append]; omega) (by have h0 := HLN.out; have hx1 := HXA.out; have hx2 := HLL.out; have hx3 := HRL.out; have hx4 := HXL.out; have hx5 := HAM.out; have h1 := HXL.out; simp only [List.length_append]; omega) (by have h0 := HLN.out; have hx1 := HXA.out; have hx2 := HLL.out; have hx3 := HRL.out; have hx4 := HXL.out; have hx5 := HAM.out; omega) (by have h0 := HLN.out; have hx1 := HXA.out; have hx2 := HLL.out; have hx3 := HRL.out; have hx4 := HXL.out; have hx5 := HAM.out; omega) hsz
                    go_wp2_with (first | (go_at_call 124; with_reducible refine hrot.mono ?_; clear hrot; rintro e5 w5 ⟨rfl, hS5⟩) | (go_at_call 121; fail))
                    have S5 : Aside (SW eI w0 blk off (X ++ (L1 ++ R1) ++ (L2 ++ R2) ++ Y).toArray w5) := (show SW eI w0 blk off (X ++ (L1 ++ R1) ++ (L2 ++ R2) ++ Y).toArray w5 from by simpa [List.append_assoc] using hS5)
                    clear hS5 S1
                    have hrec1 := HIH.out w5 a s mid X L1 R1 (L2 ++ R2 ++ Y) (by have h0 := HLN.out; have hx1 := HXA.out; have hx2 := HLL.out; have hx3 := HRL.out; have hx4 := HXL.out; have hx5 := HAM.out; have := HLN2.out; omega) (by have h0 := HLN.out; have hx1 := HXA.out; have hx2 := HLL.out; have hx3 := HRL.out; have hx4 := HXL.out; have hx5 := HAM.out; omega) (by have h0 := HLN.out; have hx1 := HXA.out; have hx2 := HLL.out; have hx3 := HRL.out; have hx4 := HXL.out; have hx5 := HAM.out; omega) HS.out.1 HS.out.2.2.1 (fun l hl r hr => HLR.out l (by rw [HL1.out] at hl; exact List.mem_of_mem_take hl) r (by rw [HR1.out] at hr; exact List.mem_of_mem_take hr)) HXA.out (by have h0 := HLN.out; have hx1 := HXA.out; have hx2 := HLL.out; have hx3 := HRL.out; have hx4 := HXL.out; have hx5 := HAM.out; have := HXA.out; omega) (by have h0 := HLN.out; have hx1 := HXA.out; have hx2 := HLL.out; have hx3 := HRL.out; have hx4 := HXL.out; have hx5 := HAM.out; have := HXA.out; have := HAM.out; omega) (by have h0 := HLN.out; have hx1 := HXA.out; have hx2 := HLL.out; have hx3 := HRL.out; have hx4 := HXL.out; have hx5 := HAM.out; have h1 := HXL.out; simp only [List.length_append]; omega) (all4 HPX.out (fun x hx => HPL.out x (by rw [HL1.out] at hx; exact List.mem_of_mem_take hx)) (fun x hx => HPR.out x (by rw [HR1.out] at hx; exact List.mem_of_mem_take hx)) (all3 (fun x hx => HPL.out x (by rw [HL2.out] at hx; exact List.mem_of_mem_drop hx)) (fun x hx => HPR.out x (by rw [HR2.out] at hx; exact List.mem_of_mem_drop hx)) HPY.out)) (by have h0 := S5.out; simpa [List.append_assoc] using h0)
                    go_wp2_with (first | (go_at_call 121; with_reducible refine hrec1.mono ?_; clear hrec1; rintro e6 w6 ⟨rfl, M1, m1p, m1s, hS6⟩))
                    have S6 : Aside (SW eI w0 blk off (X ++ M1 ++ (L2 ++ R2) ++ Y).toArray w6) := (show SW eI w0 blk off (X ++ M1 ++ (L2 ++ R2) ++ Y).toArray w6 from by simpa [List.append_assoc] using hS6)
                    clear hS6 S5
                    have HM1 := Aside0.mk m1p; have HM1S := Aside0.mk m1s; clear m1p m1s
                    have HM1L := Aside0.mk (show M1.length = mid - a by have h0 := HM1.out.length_eq; rw [List.length_append] at h0; have h1 := HLN.out; have := HAM.out; omega)
                    have hrec2 := HIH.out w6 mid e b (X ++ M1) L2 R2 Y (by have h0 := HLN.out; have hx1 := HXA.out; have hx2 := HLL.out; have hx3 := HRL.out; have hx4 := HXL.out; have hx5 := HAM.out; have := HLN2.out; omega) (by have h0 := HLN.out; have hx1 := HXA.out; have hx2 := HLL.out; have hx3 := HRL.out; have hx4 := HXL.out; have hx5 := HAM.out; omega) (by have h0 := HLN.out; have hx1 := HXA.out; have hx2 := HLL.out; have hx3 := HRL.out; have hx4 := HXL.out; have hx5 := HAM.out; omega) HS.out.2.1 HS.out.2.2.2 (fun l hl r hr => HLR.out l (by rw [HL2.out] at hl; exact List.mem_of_mem_drop hl) r (by rw [HR2.out] at hr; exact List.mem_of_mem_drop hr)) (by have h0 := HM1L.out; have := HXA.out; have := HAM.out; simp only [List.length_append]; omega) (by have h0 := HM1L.out; have := HXA.out; have := HAM.out; have := HLN.out; simp only [List.length_append]; omega) (by have h0 := HM1L.out; have := HXA.out; have := HAM.out; have := HLN.out; simp only [List.length_append]; omega) (by have h0 := HLN.out; have hx1 := HXA.out; have hx2 := HLL.out; have hx3 := HRL.out; have hx4 := HXL.out; have hx5 := HAM.out; have h1 := HXL.out; have h2 := HM1L.out; have := HAM.out; simp only [List.length_append]; omega) (all4 (all2 HPX.out (fun x hx => by have h0 := HM1.out.mem_iff.1 hx; rw [HL1.out, HR1.out] at h0; rcases List.mem_append.1 h0 with h0 | h0; exact HPL.out x (List.mem_of_mem_take h0); exact HPR.out x (List.mem_of_mem_take h0))) (fun x hx => HPL.out x (by rw [HL2.out] at hx; exact List.mem_of_mem_drop hx)) (fun x hx => HPR.out x (by rw [HR2.out] at hx; exact List.mem_of_mem_drop hx)) HPY.out) (by have h0 := S6.out; simpa [List.append_assoc] using h0)
                    go_wp2_with (go_at_call 121; with_reducible refine hrec2.mono ?_; clear hrec2; rintro e7 w7 ⟨rfl, M2, m2p, m2s, hS7⟩)
                    go_end0
                    have m1p := HM1.out; rw [HL1.out, HR1.out] at m1p; rw [HL2.out, HR2.out] at m2p
                    have hj := sym_join HX.out m1p m2p HM1S.out m2s
                    exact ⟨rfl, M1 ++ M2, hj.1, hj.2, by have h0 := hS7; simpa [List.append_assoc] using h0⟩
              · first
                  | (exfalso; have := HAM.out; omega)
                  | skip
                    have f1 : (s : Int) < (m : Int) := by have := HAM.out; omega
                    have f2 : (m : Int) < (e : Int) := by have := HAM.out; omega
                    have f3 : (a : Int) < (s : Int) := by have := HAM.out; omega
                    have f4 : (s : Int) < (mid : Int) := by have := HAM.out; omega
                    have f5 : (mid : Int) < (e : Int) := by have := HAM.out; omega
                    have f6 : ¬ (e : Int) < (b : Int) := by have := HAM.out; omega
                    have hl1 : L1.length = s - a := by rw [HL1.out, List.length_take]; have := HLL.out; omega
                    have hl2 : L2.length = m - s := by rw [HL2.out, List.length_drop]; have := HLL.out; omega
                    have hr1 : R1.length = e - m := by rw [HR1.out, List.length_take]; have := HRL.out; omega
                    have hr2 : R2.length = b - e := by rw [HR2.out, List.length_drop]; have := HRL.out; omega
                    have HLN := Aside0.mk (And.intro hl1 (And.intro hl2 (And.intro hr1 hr2)))
                    clear hl1 hl2 hr1 hr2
                    have hrot := rotate_c g cb blk off cap N s m e d0 w0 wr (X ++ L1) L2 R1 (R2 ++ Y) R hs (by have h0 := HLN.out; have hx1 := HXA.out; have hx2 := HLL.out; have hx3 := HRL.out; have hx4 := HXL.out; have hx5 := HAM.out; have h1 := HXL.out; simp only [List.length_append]; omega) (by have h0 := S1.out; simpa [List.append_assoc] using h0) (by have h0 := HLN.out; have hx1 := HXA.out; have hx2 := HLL.out; have hx3 := HRL.out; have hx4 := HXL.out; have hx5 := HAM.out; have h1 := HXL.out; simp only [List.length_append]; omega) (by have h0 := HLN.out; have hx1 := HXA.out; have hx2 := HLL.out; have hx3 := HRL.out; have hx4 := HXL.out; have hx5 := HAM.out; have h1 := HXL.out; simp only [List.length_append]; omega) (by have h0 := HLN.out; have hx1 := HXA.out; have hx2 := HLL.out; have hx3 := HRL.out; have hx4 := HXL.out; have hx5 := HAM.out; have h1 := HXL.out; simp only [List.length_append]; omega) (by have h0 := HLN.out; have hx1 := HXA.out; have hx2 := HLL.out; have hx3 := HRL.out; have hx4 := HXL.out; have hx5 := HAM.out; omega) (by have h0 := HLN.out; have hx1 := HXA.out; have hx2 := HLL.out; have hx3 := HRL.out; have hx4 := HXL.out; have hx5 := HAM.out; omega) hsz
                    go_wp2_with (first | (go_at_call 124; with_reducible refine hrot.mono ?_; clear hrot; rintro e5 w5 ⟨rfl, hS5⟩) | (go_at_call 121; fail))
                    have S5 : Aside (SW eI w0 blk off (X ++ (L1 ++ R1) ++ (L2 ++ R2) ++ Y).toArray w5) := (show SW eI w0 blk off (X ++ (L1 ++ R1) ++ (L2 ++ R2) ++ Y).toArray w5 from by simpa [List.append_assoc] using hS5)
                    clear hS5 S1
                    have hrec1 := HIH.out w5 a s mid X L1 R1 (L2 ++ R2 ++ Y) (by have h0 := HLN.out; have hx1 := HXA.out; have hx2 := HLL.out; have hx3 := HRL.out; have hx4 := HXL.out; have hx5 := HAM.out; have := HLN2.out; omega) (by have h0 := HLN.out; have hx1 := HXA.out; have hx2 := HLL.out; have hx3 := HRL.out; have hx4 := HXL.out; have hx5 := HAM.out; omega) (by have h0 := HLN.out; have hx1 := HXA.out; have hx2 := HLL.out; have hx3 := HRL.out; have hx4 := HXL.out; have hx5 := HAM.out; omega) HS.out.1 HS.out.2.2.1 (fun l hl r hr => HLR.out l (by rw [HL1.out] at hl; exact List.mem_of_mem_take hl) r (by rw [HR1.out] at hr; exact List.mem_of_mem_take hr)) HXA.out (by have h0 := HLN.out; have hx1 := HXA.out; have hx2 := HLL.out; have hx3 := HRL.out; have hx4 := HXL.out; have hx5 := HAM.out; have := HXA.out; omega) (by have h0 := HLN.out; have hx1 := HXA.out; have hx2 := HLL.out; have hx3 := HRL.out; have hx4 := HXL.out; have hx5 := HAM.out; have := HXA.out; have := HAM.out; omega) (by have h0 := HLN.out; have hx1 := HXA.out; have hx2 := HLL.out; have hx3 := HRL.out; have hx4 := HXL.out; have hx5 := HAM.out; have h1 := HXL.out; simp only [List.length_append]; omega) (all4 HPX.out (fun x hx => HPL.out x (by rw [HL1.out] at hx; exact List.mem_of_mem_take hx)) (fun x hx => HPR.out x (by rw [HR1.out] at hx; exact List.mem_of_mem_take hx)) (all3 (fun x hx => HPL.out x (by rw [HL2.out] at hx; exact List.mem_of_mem_drop hx)) (fun x hx => HPR.out x (by rw [HR2.out] at hx; exact List.mem_of_mem_drop hx)) HPY.out)) (by have h0 := S5.out; simpa [List.append_assoc] using h0)
                    go_wp2_with (first | (go_at_call 121; with_reducible refine hrec1.mono ?_; clear hrec1; rintro e6 w6 ⟨rfl, M1, m1p, m1s, hS6⟩))
                    have S6 : Aside (SW eI w0 blk off (X ++ M1 ++ (L2 ++ R2) ++ Y).toArray w6) := (show SW eI w0 blk off (X ++ M1 ++ (L2 ++ R2) ++ Y).toArray w6 from by simpa [List.append_assoc] using hS6)
                    clear hS6 S5
                    have HM1 := Aside0.mk m1p; have HM1S := Aside0.mk m1s; clear m1p m1s
                    have HM1L := Aside0.mk (show M1.length = mid - a by have h0 := HM1.out.length_eq; rw [List.length_append] at h0; have h1 := HLN.out; have := HAM.out; omega)
                    obtain ⟨M2, hM2⟩ : ∃ M2, M2 = L2 ++ R2 := ⟨_, rfl⟩
                    have m2p : M2.Perm (L2 ++ R2) := by rw [hM2]
                    have m2s : M2.Pairwise (Ord kf) := by rw [hM2]; exact join_any HS.out.2.1 HS.out.2.2.2 (.inr (List.eq_nil_of_length_eq_zero (by have := HLN.out; omega)))
                    have HM2 := Aside0.mk hM2; clear hM2; have HM2P := Aside0.mk m2p; have HM2S := Aside0.mk m2s; clear m2p m2s
                    go_wp2
                    all_goals
                      go_end0
                      have m2p := HM2P.out; have m2s := HM2S.out
                      have m1p := HM1.out; rw [HL1.out, HR1.out] at m1p; rw [HL2.out, HR2.out] at m2p
                      have hj := sym_join HX.out m1p m2p HM1S.out m2s
                      exact ⟨rfl, M1 ++ M2, hj.1, hj.2, by have h0 := S6.out; rw [← HM2.out] at h0; simpa [List.append_assoc] using h0⟩
            · by_cases hD : e < b
              · first
                  | (exfalso; have := HAM.out; omega)
                  | skip
                    have f1 : ¬ (s : Int) < (m : Int) := by have := HAM.out; omega
                    have f2 : (m : Int) < (e : Int) := by have := HAM.out; omega
                    have f3 : (a : Int) < (s : Int) := by have := HAM.out; omega
                    have f4 : (s : Int) < (mid : Int) := by have := HAM.out; omega
                    have f5 : ¬ (mid : Int) < (e : Int) := by have := HAM.out; omega
                    have f6 : (e : Int) < (b : Int) := by have := HAM.out; omega
                    have hl1 : L1.length = s - a := by rw [HL1.out, List.length_take]; have := HLL.out; omega
                    have hl2 : L2.length = m - s := by rw [HL2.out, List.length_drop]; have := HLL.out; omega
                    have hr1 : R1.length = e - m := by rw [HR1.out, List.length_take]; have := HRL.out; omega
                    have hr2 : R2.length = b - e := by rw [HR2.out, List.length_drop]; have := HRL.out; omega
                    have HLN := Aside0.mk (And.intro hl1 (And.intro hl2 (And.intro hr1 hr2)))
                    clear hl1 hl2 hr1 hr2
                    have S5 : Aside (SW eI w0 blk off (X ++ (L1 ++ R1) ++ (L2 ++ R2) ++ Y).toArray wr) := (show SW eI w0 blk off (X ++ (L1 ++ R1) ++ (L2 ++ R2) ++ Y).toArray wr from by have h0 := S1.out; have h1 : L2 = [] := List.eq_nil_of_length_eq_zero (by have := HLN.out; omega); rw [h1] at h0 ⊢; simpa [List.append_assoc] using h0)
                    clear S1
                    have hrec1 := HIH.out wr a s mid X L1 R1 (L2 ++ R2 ++ Y) (by have h0 := HLN.out; have hx1 := HXA.out; have hx2 := HLL.out; have hx3 := HRL.out; have hx4 := HXL.out; have hx5 := HAM.out; have := HLN2.out; omega) (by have h0 := HLN.out; have hx1 := HXA.out; have hx2 := HLL.out; have hx3 := HRL.out; have hx4 := HXL.out; have hx5 := HAM.out; omega) (by have h0 := HLN.out; have hx1 := HXA.out; have hx2 := HLL.out; have hx3 := HRL.out; have hx4 := HXL.out; have hx5 := HAM.out; omega) HS.out.1 HS.out.2.2.1 (fun l hl r hr => HLR.out l (by rw [HL1.out] at hl; exact List.mem_of_mem_take hl) r (by rw [HR1.out] at hr; exact List.mem_of_mem_take hr)) HXA.out (by have h0 := HLN.out; have hx1 := HXA.out; have hx2 := HLL.out; have hx3 := HRL.out; have hx4 := HXL.out; have hx5 := HAM.out; have := HXA.out; omega) (by have h0 := HLN.out; have hx1 := HXA.out; have hx2 := HLL.out; have hx3 := HRL.out; have hx4 := HXL.out; have hx5 := HAM.out; have := HXA.out; have := HAM.out; omega) (by have h0 := HLN.out; have hx1 := HXA.out; have hx2 := HLL.out; have hx3 := HRL.out; have hx4 := HXL.out; have hx5 := HAM.out; have h1 := HXL.out; simp only [List.length_append]; omega) (all4 HPX.out (fun x hx => HPL.out x (by rw [HL1.out] at hx; exact List.mem_of_mem_take hx)) (fun x hx => HPR.out x (by rw [HR1.out] at hx; exact List.mem_of_mem_take hx)) (all3 (fun x hx => HPL.out x (by rw [HL2.out] at hx; exact List.mem_of_mem_drop hx)) (fun x hx => HPR.out x (by rw [HR2.out] at hx; exact List.mem_of_mem_drop hx)) HPY.out)) (by have h0 := S5.out; simpa [List.append_assoc] using h0)
                    go_wp2_with (first | (go_at_call 121; with_reducible refine hrec1.mono ?_; clear hrec1; rintro e6 w6 ⟨rfl, M1, m1p, m1s, hS6⟩))
                    have S6 : Aside (SW eI w0 blk off (X ++ M1 ++ (L2 ++ R2) ++ Y).toArray w6) := (show SW eI w0 blk off (X ++ M1 ++ (L2 ++ R2) ++ Y).toArray w6 from by simpa [List.append_assoc] using hS6)
                    clear hS6 S5
                    have HM1 := Aside0.mk m1p; have HM1S := Aside0.mk m1s; clear m1p m1s
                    have HM1L := Aside0.mk (show M1.length = mid - a by have h0 := HM1.out.length_eq; rw [List.length_append] at h0; have h1 := HLN.out; have := HAM.out; omega)
                    obtain ⟨M2, hM2⟩ : ∃ M2, M2 = L2 ++ R2 := ⟨_, rfl⟩
                    have m2p : M2.Perm (L2 ++ R2) := by rw [hM2]
                    have m2s : M2.Pairwise (Ord kf) := by rw [hM2]; exact join_any HS.out.2.1 HS.out.2.2.2 (.inl (List.eq_nil_of_length_eq_zero (by have := HLN.out; omega)))
                    have HM2 := Aside0.mk hM2; clear hM2; have HM2P := Aside0.mk m2p; have HM2S := Aside0.mk m2s; clear m2p m2s
                    go_wp2
                    all_goals
                      go_end0
                      have m2p := HM2P.out; have m2s := HM2S.out
                      have m1p := HM1.out; rw [HL1.out, HR1.out] at m1p; rw [HL2.out, HR2.out] at m2p
                      have hj := sym_join HX.out m1p m2p HM1S.out m2s
                      exact ⟨rfl, M1 ++ M2, hj.1, hj.2, by have h0 := S6.out; rw [← HM2.out] at h0; simpa [List.append_assoc] using h0⟩
              · first
                  | (exfalso; have := HAM.out; omega)
                  | skip
                    have f1 : ¬ (s : Int) < (m : Int) := by have := HAM.out; omega
                    have f2 : (m : Int) < (e : Int) := by have := HAM.out; omega
                    have f3 : (a : Int) < (s : Int) := by have := HAM.out; omega
                    have f4 : (s : Int) < (mid : Int) := by have := HAM.out; omega
                    have f5 : ¬ (mid : Int) < (e : Int) := by have := HAM.out; omega
                    have f6 : ¬ (e : Int) < (b : Int) := by have := HAM.out; omega
                    have hl1 : L1.length = s - a := by rw [HL1.out, List.length_take]; have := HLL.out; omega
                    have hl2 : L2.length = m - s := by rw [HL2.out, List.length_drop]; have := HLL.out; omega
                    have hr1 : R1.length = e - m := by rw [HR1.out, List.length_take]; have := HRL.out; omega
                    have hr2 : R2.length = b - e := by rw [HR2.out, List.length_drop]; have := HRL.out; omega
                    have HLN := Aside0.mk (And.intro hl1 (And.intro hl2 (And.intro hr1 hr2)))
                    clear hl1 hl2 hr1 hr2
                    have S5 : Aside (SW eI w0 blk off (X ++ (L1 ++ R1) ++ (L2 ++ R2) ++ Y).toArray wr) := (show SW eI w0 blk off (X ++ (L1 ++ R1) ++ (L2 ++ R2) ++ Y).toArray wr from by have h0 := S1.out; have h1 : L2 = [] := List.eq_nil_of_length_eq_zero (by have := HLN.out; omega); rw [h1] at h0 ⊢; simpa [List.append_assoc] using h0)
                    clear S1
                    have hrec1 := HIH.out wr a s mid X L1 R1 (L2 ++ R2 ++ Y) (by have h0 := HLN.out; have hx1 := HXA.out; have hx2 := HLL.out; have hx3 := HRL.out; have hx4 := HXL.out; have hx5 := HAM.out; have := HLN2.out; omega) (by have h0 := HLN.out; have hx1 := HXA.out; have hx2 := HLL.out; have hx3 := HRL.out; have hx4 := HXL.out; have hx5 := HAM.out; omega) (by have h0 := HLN.out; have hx1 := HXA.out; have hx2 := HLL.out; have hx3 := HRL.out; have hx4 := HXL.out; have hx5 := HAM.out; omega) HS.out.1 HS.out.2.2.1 (fun l hl r hr => HLR.out l (by rw [HL1.out] at hl; exact List.mem_of_mem_take hl) r (by rw [HR1.out] at hr; exact List.mem_of_mem_take hr)) HXA.out (by have h0 := HLN.out; have hx1 := HXA.out; have hx2 := HLL.out; have hx3 := HRL.out; have hx4 := HXL.out; have hx5 := HAM.out; have := HXA.out; omega) (by have h0 := HLN.out; have hx1 := HXA.out; have hx2 := HLL.out; have hx3 := HRL.out; have hx4 := HXL.out; have hx5 := HAM.out; have := HXA.out; have := HAM.out; omega) (by have h0 := HLN.out; have hx1 := HXA.out; have hx2 := HLL.out; have hx3 := HRL.out; have hx4 := HXL.out; have hx5 := HAM.out; have h1 := HXL.out; simp only [List.length_append]; omega) (all4 HPX.out (fun x hx => HPL.out x (by rw [HL1.out] at hx; exact List.mem_of_mem_take hx)) (fun x hx => HPR.out x (by rw [HR1.out] at hx; exact List.mem_of_mem_take hx)) (all3 (fun x hx => HPL.out x (by rw [HL2.out] at hx; exact List.mem_of_mem_drop hx)) (fun x hx => HPR.out x (by rw [HR2.out] at hx; exact List.mem_of_mem_drop hx)) HPY.out)) (by have h0 := S5.out; simpa [List.append_assoc] using h0)
                    go_wp2_with (first | (go_at_call 121; with_reducible refine hrec1.mono ?_; clear hrec1; rintro e6 w6 ⟨rfl, M1, m1p, m1s, hS6⟩))
                    have S6 : Aside (SW eI w0 blk off (X ++ M1 ++ (L2 ++ R2) ++ Y).toArray w6) := (show SW eI w0 blk off (X ++ M1 ++ (L2 ++ R2) ++ Y).toArray w6 from by simpa [List.append_assoc] using hS6)
                    clear hS6 S5
                    have HM1 := Aside0.mk m1p; have HM1S := Aside0.mk m1s; clear m1p m1s
                    have HM1L := Aside0.mk (show M1.length = mid - a by have h0 := HM1.out.length_eq; rw [List.length_append] at h0; have h1 := HLN.out; have := HAM.out; omega)
                    obtain ⟨M2, hM2⟩ : ∃ M2, M2 = L2 ++ R2 := ⟨_, rfl⟩
                    have m2p : M2.Perm (L2 ++ R2) := by rw [hM2]
                    have m2s : M2.Pairwise (Ord kf) := by rw [hM2]; exact join_any HS.out.2.1 HS.out.2.2.2 (.inl (List.eq_nil_of_length_eq_zero (by have := HLN.out; omega)))
                    have HM2 := Aside0.mk hM2; clear hM2; have HM2P := Aside0.mk m2p; have HM2S := Aside0.mk m2s; clear m2p m2s
                    go_wp2
                    all_goals
                      go_end0
                      have m2p := HM2P.out; have m2s := HM2S.out
                      have m1p := HM1.out; rw [HL1.out, HR1.out] at m1p; rw [HL2.out, HR2.out] at m2p
                      have hj := sym_join HX.out m1p m2p HM1S.out m2s
                      exact ⟨rfl, M1 ++ M2, hj.1, hj.2, by have h0 := S6.out; rw [← HM2.out] at h0; simpa [List.append_assoc] using h0⟩
          · by_cases hC : s < m
            · by_cases hD : e < b
              · first
                  | (exfalso; have := HAM.out; omega)
                  | skip
                    have f1 : (s : Int) < (m : Int) := by have := HAM.out; omega
                    have f2 : ¬ (m : Int) < (e : Int) := by have := HAM.out; omega
                    have f3 : (a : Int) < (s : Int) := by have := HAM.out; omega
                    have f4 : ¬ (s : Int) < (mid : Int) := by have := HAM.out; omega
                    have f5 : (mid : Int) < (e : Int) := by have := HAM.out; omega
                    have f6 : (e : Int) < (b : Int) := by have := HAM.out; omega
                    have hl1 : L1.length = s - a := by rw [HL1.out, List.length_take]; have := HLL.out; omega
                    have hl2 : L2.length = m - s := by rw [HL2.out, List.length_drop]; have := HLL.out; omega
                    have hr1 : R1.length = e - m := by rw [HR1.out, List.length_take]; have := HRL.out; omega
                    have hr2 : R2.length = b - e := by rw [HR2.out, List.length_drop]; have := HRL.out; omega
                    have HLN := Aside0.mk (And.intro hl1 (And.intro hl2 (And.intro hr1 hr2)))
                    clear hl1 hl2 hr1 hr2
                    have S5 : Aside (SW eI w0 blk off (X ++ (L1 ++ R1) ++ (L2 ++ R2) ++ Y).toArray wr) := (show SW eI w0 blk off (X ++ (L1 ++ R1) ++ (L2 ++ R2) ++ Y).toArray wr from by have h0 := S1.out; have h1 : R1 = [] := List.eq_nil_of_length_eq_zero (by have := HLN.out; omega); rw [h1] at h0 ⊢; simpa [List.append_assoc] using h0)
                    clear S1
                    obtain ⟨M1, hM1⟩ : ∃ M1, M1 = L1 ++ R1 := ⟨_, rfl⟩
                    have m1p : M1.Perm (L1 ++ R1) := by rw [hM1]
                    have m1s : M1.Pairwise (Ord kf) := by rw [hM1]; exact join_any HS.out.1 HS.out.2.2.1 (.inr (List.eq_nil_of_length_eq_zero (by have := HLN.out; omega)))
                    have S6 : Aside (SW eI w0 blk off (X ++ M1 ++ (L2 ++ R2) ++ Y).toArray wr) := by rw [hM1]; exact S5
                    clear S5 hM1
                    have HM1 := Aside0.mk m1p; have HM1S := Aside0.mk m1s; clear m1p m1s
                    have HM1L := Aside0.mk (show M1.length = mid - a by have h0 := HM1.out.length_eq; rw [List.length_append] at h0; have h1 := HLN.out; have := HAM.out; omega)
                    have hrec2 := HIH.out wr mid e b (X ++ M1) L2 R2 Y (by have h0 := HLN.out; have hx1 := HXA.out; have hx2 := HLL.out; have hx3 := HRL.out; have hx4 := HXL.out; have hx5 := HAM.out; have := HLN2.out; omega) (by have h0 := HLN.out; have hx1 := HXA.out; have hx2 := HLL.out; have hx3 := HRL.out; have hx4 := HXL.out; have hx5 := HAM.out; omega) (by have h0 := HLN.out; have hx1 := HXA.out; have hx2 := HLL.out; have hx3 := HRL.out; have hx4 := HXL.out; have hx5 := HAM.out; omega) HS.out.2.1 HS.out.2.2.2 (fun l hl r hr => HLR.out l (by rw [HL2.out] at hl; exact List.mem_of_mem_drop hl) r (by rw [HR2.out] at hr; exact List.mem_of_mem_drop hr)) (by have h0 := HM1L.out; have := HXA.out; have := HAM.out; simp only [List.length_append]; omega) (by have h0 := HM1L.out; have := HXA.out; have := HAM.out; have := HLN.out; simp only [List.length_append]; omega) (by have h0 := HM1L.out; have := HXA.out; have := HAM.out; have := HLN.out; simp only [List.length_append]; omega) (by have h0 := HLN.out; have hx1 := HXA.out; have hx2 := HLL.out; have hx3 := HRL.out; have hx4 := HXL.out; have hx5 := HAM.out; have h1 := HXL.out; have h2 := HM1L.out; have := HAM.out; simp only [List.length_append]; omega) (all4 (all2 HPX.out (fun x hx => by have h0 := HM1.out.mem_iff.1 hx; rw [HL1.out, HR1.out] at h0; rcases List.mem_append.1 h0 with h0 | h0; exact HPL.out x (List.mem_of_mem_take h0); exact HPR.out x (List.mem_of_mem_take h0))) (fun x hx => HPL.out x (by rw [HL2.out] at hx; exact List.mem_of_mem_drop hx)) (fun x hx => HPR.out x (by rw [HR2.out] at hx; exact List.mem_of_mem_drop hx)) HPY.out) (by have h0 := S6.out; simpa [List.append_assoc] using h0)
                    go_wp2_with (go_at_call 121; with_reducible refine hrec2.mono ?_; clear hrec2; rintro e7 w7 ⟨rfl, M2, m2p, m2s, hS7⟩)
                    go_end0
                    have m1p := HM1.out; rw [HL1.out, HR1.out] at m1p; rw [HL2.out, HR2.out] at m2p
                    have hj := sym_join HX.out m1p m2p HM1S.out m2s
                    exact ⟨rfl, M1 ++ M2, hj.1, hj.2, by have h0 := hS7; simpa [List.append_assoc] using h0⟩
              · exfalso; have := HAM.out; omega
            · by_cases hD : e < b
              · first
                  | (exfalso; have := HAM.out; omega)
                  | skip
                    have f1 : ¬ (s : Int) < (m : Int) := by have := HAM.out; omega
                    have f2 : ¬ (m : Int) < (e : Int) := by have := HAM.out; omega
                    have f3 : (a : Int) < (s : Int) := by have := HAM.out; omega
                    have f4 : ¬ (s : Int) < (mid : Int) := by have := HAM.out; omega
                    have f5 : ¬ (mid : Int) < (e : Int) := by have := HAM.out; omega
                    have f6 : (e : Int) < (b : Int) := by have := HAM.out; omega
                    have hl1 : L1.length = s - a := by rw [HL1.out, List.length_take]; have := HLL.out; omega
                    have hl2 : L2.length = m - s := by rw [HL2.out, List.length_drop]; have := HLL.out; omega
                    have hr1 : R1.length = e - m := by rw [HR1.out, List.length_take]; have := HRL.out; omega
                    have hr2 : R2.length = b - e := by rw [HR2.out, List.length_drop]; have := HRL.out; omega
                    have HLN := Aside0.mk (And.intro hl1 (And.intro hl2 (And.intro hr1 hr2)))
                    clear hl1 hl2 hr1 hr2
                    have S5 : Aside (SW eI w0 blk off (X ++ (L1 ++ R1) ++ (L2 ++ R2) ++ Y).toArray wr) := (show SW eI w0 blk off (X ++ (L1 ++ R1) ++ (L2 ++ R2) ++ Y).toArray wr from by have h0 := S1.out; have h1 : L2 = [] := List.eq_nil_of_length_eq_zero (by have := HLN.out; omega); rw [h1] at h0 ⊢; simpa [List.append_assoc] using h0)
                    clear S1
                    obtain ⟨M1, hM1⟩ : ∃ M1, M1 = L1 ++ R1 := ⟨_, rfl⟩
                    have m1p : M1.Perm (L1 ++ R1) := by rw [hM1]
                    have m1s : M1.Pairwise (Ord kf) := by rw [hM1]; exact join_any HS.out.1 HS.out.2.2.1 (.inr (List.eq_nil_of_length_eq_zero (by have := HLN.out; omega)))
                    have S6 : Aside (SW eI w0 blk off (X ++ M1 ++ (L2 ++ R2) ++ Y).toArray wr) := by rw [hM1]; exact S5
                    clear S5 hM1
                    have HM1 := Aside0.mk m1p; have HM1S := Aside0.mk m1s; clear m1p m1s
                    have HM1L := Aside0.mk (show M1.length = mid - a by have h0 := HM1.out.length_eq; rw [List.length_append] at h0; have h1 := HLN.out; have := HAM.out; omega)
                    obtain ⟨M2, hM2⟩ : ∃ M2, M2 = L2 ++ R2 := ⟨_, rfl⟩
                    have m2p : M2.Perm (L2 ++ R2) := by rw [hM2]
                    have m2s : M2.Pairwise (Ord kf) := by rw [hM2]; exact join_any HS.out.2.1 HS.out.2.2.2 (.inl (List.eq_nil_of_length_eq_zero (by have := HLN.out; omega)))
                    have HM2 := Aside0.mk hM2; clear hM2; have HM2P := Aside0.mk m2p; have HM2S := Aside0.mk m2s; clear m2p m2s
                    go_wp2
                    all_goals
                      go_end0
                      have m2p := HM2P.out; have m2s := HM2S.out
                      have m1p := HM1.out; rw [HL1.out, HR1.out] at m1p; rw [HL2.out, HR2.out] at m2p
                      have hj := sym_join HX.out m1p m2p HM1S.out m2s
                      exact ⟨rfl, M1 ++ M2, hj.1, hj.2, by have h0 := S6.out; rw [← HM2.out] at h0; simpa [List.append_assoc] using h0⟩
              · exfalso; have := HAM.out; omega
        · by_cases hB : s < mid
          · by_cases hC : s < m
            · by_cases hD : e < b
              · first
                  | (exfalso; have := HAM.out; omega)
                  | skip
                    have f1 : (s : Int) < (m : Int) := by have := HAM.out; omega
                    have f2 : (m : Int) < (e : Int) := by have := HAM.out; omega
                    have f3 : ¬ (a : Int) < (s : Int) := by have := HAM.out; omega
                    have f4 : (s : Int) < (mid : Int) := by have := HAM.out; omega
                    have f5 : (mid : Int) < (e : Int) := by have := HAM.out; omega
                    have f6 : (e : Int) < (b : Int) := by have := HAM.out; omega
                    have hl1 : L1.length = s - a := by rw [HL1.out, List.length_take]; have := HLL.out; omega
                    have hl2 : L2.length = m - s := by rw [HL2.out, List.length_drop]; have := HLL.out; omega
                    have hr1 : R1.length = e - m := by rw [HR1.out, List.length_take]; have := HRL.out; omega
                    have hr2 : R2.length = b - e := by rw [HR2.out, List.length_drop]; have := HRL.out; omega
                    have HLN := Aside0.mk (And.intro hl1 (And.intro hl2 (And.intro hr1 hr2)))
                    clear hl1 hl2 hr1 hr2
                    have hrot := rotate_c g cb blk off cap N s m e d0 w0 wr (X ++ L1) L2 R1 (R2 ++ Y) R hs (by have h0 := HLN.out; have hx1 := HXA.out; have hx2 := HLL.out; have hx3 := HRL.out; have hx4 := HXL.out; have hx5 := HAM.out; have h1 := HXL.out; simp only [List.length_append]; omega) (by have h0 := S1.out; simpa [List.append_assoc] using h0) (by have h0 := HLN.out; have hx1 := HXA.out; have hx2 := HLL.out; have hx3 := HRL.out; have hx4 := HXL.out; have hx5 := HAM.out; have h1 := HXL.out; simp only [List.length_append]; omega) (by have h0 := HLN.out; have hx1 := HXA.out; have hx2 := HLL.out; have hx3 := HRL.out; have hx4 := HXL.out; have hx5 := HAM.out; have h1 := HXL.out; simp only [List.length_append]; omega) (by have h0 := HLN.out; have hx1 := HXA.out; have hx2 := HLL.out; have hx3 := HRL.out; have hx4 := HXL.out; have hx5 := HAM.out; have h1 := HXL.out; simp only [List.length_append]; omega) (by have h0 := HLN.out; have hx1 := HXA.out; have hx2 := HLL.out; have hx3 := HRL.out; have hx4 := HXL.out; have hx5 := HAM.out; omega) (by have h0 := HLN.out; have hx1 := HXA.out; have hx2 := HLL.out; have hx3 := HRL.out; have hx4 := HXL.out; have hx5 := HAM.out; omega) hsz
                    go_wp2_with (first | (go_at_call 124; with_reducible refine hrot.mono ?_; clear hrot; rintro e5 w5 ⟨rfl, hS5⟩) | (go_at_call 121; fail))
                    have S5 : Aside (SW eI w0 blk off (X ++ (L1 ++ R1) ++ (L2 ++ R2) ++ Y).toArray w5) := (show SW eI w0 blk off (X ++ (L1 ++ R1) ++ (L2 ++ R2) ++ Y).toArray w5 from by simpa [List.append_assoc] using hS5)
                    clear hS5 S1
                    obtain ⟨M1, hM1⟩ : ∃ M1, M1 = L1 ++ R1 := ⟨_, rfl⟩
                    have m1p : M1.Perm (L1 ++ R1) := by rw [hM1]
                    have m1s : M1.Pairwise (Ord kf) := by rw [hM1]; exact join_any HS.out.1 HS.out.2.2.1 (.inl (List.eq_nil_of_length_eq_zero (by have := HLN.out; omega)))
                    have S6 : Aside (SW eI w0 blk off (X ++ M1 ++ (L2 ++ R2) ++ Y).toArray w5) := by rw [hM1]; exact S5
                    clear S5 hM1
                    have HM1 := Aside0.mk m1p; have HM1S := Aside0.mk m1s; clear m1p m1s
                    have HM1L := Aside0.mk (show M1.length = mid - a by have h0 := HM1.out.length_eq; rw [List.length_append] at h0; have h1 := HLN.out; have := HAM.out; omega)
                    have hrec2 := HIH.out w5 mid e b (X ++ M1) L2 R2 Y (by have h0 := HLN.out; have hx1 := HXA.out; have hx2 := HLL.out; have hx3 := HRL.out; have hx4 := HXL.out; have hx5 := HAM.out; have := HLN2.out; omega) (by have h0 := HLN.out; have hx1 := HXA.out; have hx2 := HLL.out; have hx3 := HRL.out; have hx4 := HXL.out; have hx5 := HAM.out; omega) (by have h0 := HLN.out; have hx1 := HXA.out; have hx2 := HLL.out; have hx3 := HRL.out; have hx4 := HXL.out; have hx5 := HAM.out; omega) HS.out.2.1 HS.out.2.2.2 (fun l hl r hr => HLR.out l (by rw [HL2.out] at hl; exact List.mem_of_mem_drop hl) r (by rw [HR2.out] at hr; exact List.mem_of_mem_drop hr)) (by have h0 := HM1L.out; have := HXA.out; have := HAM.out; simp only [List.length_append]; omega) (by have h0 := HM1L.out; have := HXA.out; have := HAM.out; have := HLN.out; simp only [List.length_append]; omega) (by have h0 := HM1L.out; have := HXA.out; have := HAM.out; have := HLN.out; simp only [List.length_append]; omega) (by have h0 := HLN.out; have hx1 := HXA.out; have hx2 := HLL.out; have hx3 := HRL.out; have hx4 := HXL.out; have hx5 := HAM.out; have h1 := HXL.out; have h2 := HM1L.out; have := HAM.out; simp only [List.length_append]; omega) (all4 (all2 HPX.out (fun x hx => by have h0 := HM1.out.mem_iff.1 hx; rw [HL1.out, HR1.out] at h0; rcases List.mem_append.1 h0 with h0 | h0; exact HPL.out x (List.mem_of_mem_take h0); exact HPR.out x (List.mem_of_mem_take h0))) (fun x hx => HPL.out x (by rw [HL2.out] at hx; exact List.mem_of_mem_drop hx)) (fun x hx => HPR.out x (by rw [HR2.out] at hx; exact List.mem_of_mem_drop hx)) HPY.out) (by have h0 := S6.out; simpa [List.append_assoc] using h0)
                    go_wp2_with (go_at_call 121; with_reducible refine hrec2.mono ?_; clear hrec2; rintro e7 w7 ⟨rfl, M2, m2p, m2s, hS7⟩)
                    go_end0
                    have m1p := HM1.out; rw [HL1.out, HR1.out] at m1p; rw [HL2.out, HR2.out] at m2p
                    have hj := sym_join HX.out m1p m2p HM1S.out m2s
                    exact ⟨rfl, M1 ++ M2, hj.1, hj.2, by have h0 := hS7; simpa [List.append_assoc] using h0⟩
              · first
                  | (exfalso; have := HAM.out; omega)
                  | skip
                    have f1 : (s : Int) < (m : Int) := by have := HAM.out; omega
                    have f2 : (m : Int) < (e : Int) := by have := HAM.out; omega
                    have f3 : ¬ (a : Int) < (s : Int) := by have := HAM.out; omega
                    have f4 : (s : Int) < (mid : Int) := by have := HAM.out; omega
                    have f5 : (mid : Int) < (e : Int) := by have := HAM.out; omega
                    have f6 : ¬ (e : Int) < (b : Int) := by have := HAM.out; omega
                    have hl1 : L1.length = s - a := by rw [HL1.out, List.length_take]; have := HLL.out; omega
                    have hl2 : L2.length = m - s := by rw [HL2.out, List.length_drop]; have := HLL.out; omega
                    have hr1 : R1.length = e - m := by rw [HR1.out, List.length_take]; have := HRL.out; omega
                    have hr2 : R2.length = b - e := by rw [HR2.out, List.length_drop]; have := HRL.out; omega
                    have HLN := Aside0.mk (And.intro hl1 (And.intro hl2 (And.intro hr1 hr2)))
                    clear hl1 hl2 hr1 hr2
                    have hrot := rotate_c g cb blk off cap N s m e d0 w0 wr (X ++ L1) L2 R1 (R2 ++ Y) R hs (by have h0 := HLN.out; have hx1 := HXA.out; have hx2 := HLL.out; have hx3 := HRL.out; have hx4 := HXL.out; have hx5 := HAM.out; have h1 := HXL.out; simp only [List.length_append]; omega) (by have h0 := S1.out; simpa [List.append_assoc] using h0) (by have h0 := HLN.out; have hx1 := HXA.out; have hx2 := HLL.out; have hx3 := HRL.out; have hx4 := HXL.out; have hx5 := HAM.out; have h1 := HXL.out; simp only [List.length_append]; omega) (by have h0 := HLN.out; have hx1 := HXA.out; have hx2 := HLL.out; have hx3 := HRL.out; have hx4 := HXL.out; have hx5 := HAM.out; have h1 := HXL.out; simp only [List.length_append]; omega) (by have h0 := HLN.out; have hx1 := HXA.out; have hx2 := HLL.out; have hx3 := HRL.out; have hx4 := HXL.out; have hx5 := HAM.out; have h1 := HXL.out; simp only [List.length_append]; omega) (by have h0 := HLN.out; have hx1 := HXA.out; have hx2 := HLL.out; have hx3 := HRL.out; have hx4 := HXL.out; have hx5 := HAM.out; omega) (by have h0 := HLN.out; have hx1 := HXA.out; have hx2 := HLL.out; have hx3 := HRL.out; have hx4 := HXL.out; have hx5 := HAM.out; omega) hsz
                    go_wp2_with (go_at_call 124; with_reducible refine hrot.mono ?_; clear hrot; rintro e5 w5 ⟨rfl, hS5⟩)
                    have S5 : Aside (SW eI w0 blk off (X ++ (L1 ++ R1) ++ (L2 ++ R2) ++ Y).toArray w5) := (show SW eI w0 blk off (X ++ (L1 ++ R1) ++ (L2 ++ R2) ++ Y).toArray w5 from by simpa [List.append_assoc] using hS5)
                    clear hS5 S1
                    obtain ⟨M1, hM1⟩ : ∃ M1, M1 = L1 ++ R1 := ⟨_, rfl⟩
                    have m1p : M1.Perm (L1 ++ R1) := by rw [hM1]
                    have m1s : M1.Pairwise (Ord kf) := by rw [hM1]; exact join_any HS.out.1 HS.out.2.2.1 (.inl (List.eq_nil_of_length_eq_zero (by have := HLN.out; omega)))
                    have S6 : Aside (SW eI w0 blk off (X ++ M1 ++ (L2 ++ R2) ++ Y).toArray w5) := by rw [hM1]; exact S5
                    clear S5 hM1
                    have HM1 := Aside0.mk m1p; have HM1S := Aside0.mk m1s; clear m1p m1s
                    have HM1L := Aside0.mk (show M1.length = mid - a by have h0 := HM1.out.length_eq; rw [List.length_append] at h0; have h1 := HLN.out; have := HAM.out; omega)
                    obtain ⟨M2, hM2⟩ : ∃ M2, M2 = L2 ++ R2 := ⟨_, rfl⟩
                    have m2p : M2.Perm (L2 ++ R2) := by rw [hM2]
                    have m2s : M2.Pairwise (Ord kf) := by rw [hM2]; exact join_any HS.out.2.1 HS.out.2.2.2 (.inr (List.eq_nil_of_length_eq_zero (by have := HLN.out; omega)))
                    have HM2 := Aside0.mk hM2; clear hM2; have HM2P := Aside0.mk m2p; have HM2S := Aside0.mk m2s; clear m2p m2s
                    go_wp2
                    all_goals
                      go_end0
                      have m2p := HM2P.out; have m2s := HM2S.out
                      have m1p := HM1.out; rw [HL1.out, HR1.out] at m1p; rw [HL2.out, HR2.out] at m2p
                      have hj := sym_join HX.out m1p m2p HM1S.out m2s
                      exact ⟨rfl, M1 ++ M2, hj.1, hj.2, by have h0 := S6.out; rw [← HM2.out] at h0; simpa [List.append_assoc] using h0⟩
            · by_cases hD : e < b
              · exfalso; have := HAM.out; omega
              · exfalso; have := HAM.out; omega
          · by_cases hC : s < m
            · by_cases hD : e < b
              · first
                  | (exfalso; have := HAM.out; omega)
                  | skip
                    have f1 : (s : Int) < (m : Int) := by have := HAM.out; omega
                    have f2 : ¬ (m : Int) < (e : Int) := by have := HAM.out; omega
                    have f3 : ¬ (a : Int) < (s : Int) := by have := HAM.out; omega
                    have f4 : ¬ (s : Int) < (mid : Int) := by have := HAM.out; omega
                    have f5 : (mid : Int) < (e : Int) := by have := HAM.out; omega
                    have f6 : (e : Int) < (b : Int) := by have := HAM.out; omega
                    have hl1 : L1.length = s - a := by rw [HL1.out, List.length_take]; have := HLL.out; omega
                    have hl2 : L2.length = m - s := by rw [HL2.out, List.length_drop]; have := HLL.out; omega
                    have hr1 : R1.length = e - m := by rw [HR1.out, List.length_take]; have := HRL.out; omega
                    have hr2 : R2.length = b - e := by rw [HR2.out, List.length_drop]; have := HRL.out; omega
                    have HLN := Aside0.mk (And.intro hl1 (And.intro hl2 (And.intro hr1 hr2)))
                    clear hl1 hl2 hr1 hr2
                    have S5 : Aside (SW eI w0 blk off (X ++ (L1 ++ R1) ++ (L2 ++ R2) ++ Y).toArray wr) := (show SW eI w0 blk off (X ++ (L1 ++ R1) ++ (L2 ++ R2) ++ Y).toArray wr from by have h0 := S1.out; have h1 : R1 = [] := List.eq_nil_of_length_eq_zero (by have := HLN.out; omega); rw [h1] at h0 ⊢; simpa [List.append_assoc] using h0)
                    clear S1
                    obtain ⟨M1, hM1⟩ : ∃ M1, M1 = L1 ++ R1 := ⟨_, rfl⟩
                    have m1p : M1.Perm (L1 ++ R1) := by rw [hM1]
                    have m1s : M1.Pairwise (Ord kf) := by rw [hM1]; exact join_any HS.out.1 HS.out.2.2.1 (.inl (List.eq_nil_of_length_eq_zero (by have := HLN.out; omega)))
                    have S6 : Aside (SW eI w0 blk off (X ++ M1 ++ (L2 ++ R2) ++ Y).toArray wr) := by rw [hM1]; exact S5
                    clear S5 hM1
                    have HM1 := Aside0.mk m1p; have HM1S := Aside0.mk m1s; clear m1p m1s
                    have HM1L := Aside0.mk (show M1.length = mid - a by have h0 := HM1.out.length_eq; rw [List.length_append] at h0; have h1 := HLN.out; have := HAM.out; omega)
                    have hrec2 := HIH.out wr mid e b (X ++ M1) L2 R2 Y (by have h0 := HLN.out; have hx1 := HXA.out; have hx2 := HLL.out; have hx3 := HRL.out; have hx4 := HXL.out; have hx5 := HAM.out; have := HLN2.out; omega) (by have h0 := HLN.out; have hx1 := HXA.out; have hx2 := HLL.out; have hx3 := HRL.out; have hx4 := HXL.out; have hx5 := HAM.out; omega) (by have h0 := HLN.out; have hx1 := HXA.out; have hx2 := HLL.out; have hx3 := HRL.out; have hx4 := HXL.out; have hx5 := HAM.out; omega) HS.out.2.1 HS.out.2.2.2 (fun l hl r hr => HLR.out l (by rw [HL2.out] at hl; exact List.mem_of_mem_drop hl) r (by rw [HR2.out] at hr; exact List.mem_of_mem_drop hr)) (by have h0 := HM1L.out; have := HXA.out; have := HAM.out; simp only [List.length_append]; omega) (by have h0 := HM1L.out; have := HXA.out; have := HAM.out; have := HLN.out; simp only [List.length_append]; omega) (by have h0 := HM1L.out; have := HXA.out; have := HAM.out; have := HLN.out; simp only [List.length_append]; omega) (by have h0 := HLN.out; have hx1 := HXA.out; have hx2 := HLL.out; have hx3 := HRL.out; have hx4 := HXL.out; have hx5 := HAM.out; have h1 := HXL.out; have h2 := HM1L.out; have := HAM.out; simp only [List.length_append]; omega) (all4 (all2 HPX.out (fun x hx => by have h0 := HM1.out.mem_iff.1 hx; rw [HL1.out, HR1.out] at h0; rcases List.mem_append.1 h0 with h0 | h0; exact HPL.out x (List.mem_of_mem_take h0); exact HPR.out x (List.mem_of_mem_take h0))) (fun x hx => HPL.out x (by rw [HL2.out] at hx; exact List.mem_of_mem_drop hx)) (fun x hx => HPR.out x (by rw [HR2.out] at hx; exact List.mem_of_mem_drop hx)) HPY.out) (by have h0 := S6.out; simpa [List.append_assoc] using h0)
                    go_wp2_with (go_at_call 121; with_reducible refine hrec2.mono ?_; clear hrec2; rintro e7 w7 ⟨rfl, M2, m2p, m2s, hS7⟩)
                    go_end0
                    have m1p := HM1.out; rw [HL1.out, HR1.out] at m1p; rw [HL2.out, HR2.out] at m2p
                    have hj := sym_join HX.out m1p m2p HM1S.out m2s
                    exact ⟨rfl, M1 ++ M2, hj.1, hj.2, by have h0 := hS7; simpa [List.append_assoc] using h0⟩
              · exfalso; have := HAM.out; omega
            · by_cases hD : e < b
              · exfalso; have := HAM.out; omega
              · exfalso; have := HAM.out; omega
end Go.Proofs.Ytningpmoojnomaa.Pr
end
section
namespace Go.Proofs.Ytningpmoojnomaa.Pr
open Go.Shelf Go.RowKit Go.Lib Go.Sort Go.Proofs.YtningpmoojnomaaW.PrintWords
set_option linter.unusedVariables false
set_option linter.unusedSimpArgs false
set_option maxHeartbeats 8000000 in
set_option maxRecDepth 1000000 in
theorem insSort_c (kf : Int → Int) (g : Nat) (cb : Array Value) (blk off cap N : Nat) (d0 : Array Int) (w0 : World) (R : Row1 eI w0 blk off d0) (hs : d0.size = N) (hcmp : CmpOn kf g cb blk off N w0) (eg : ∀ args w, (callFunc g args).run Try.prog w = .ok (.enter g args) w) (hsz : N < 4611686018427387904) (w : World) (a b : Nat) (X Q Y : List Int) (ha : a = X.length) (hb : b = X.length + Q.length) (hN : (X ++ Q ++ Y).length = N) (hQ : Q.Pairwise (· < ·)) (hP : ∀ x ∈ X ++ Q ++ Y, 0 ≤ x ∧ x < (N : Int))
    (S : SW eI w0 blk off (X ++ Q ++ Y).toArray w) :
    Calls Try.prog 120 #[.slice (some ⟨blk, off, none⟩) N cap, .int .i64 a, .int .i64 b, .func (.func g) #[] cb] w fun e w' => e = .returned (.tuple #[]) ∧ ∃ M, M.Perm Q ∧ M.Pairwise (Ord kf) ∧ SW eI w0 blk off (X ++ M ++ Y).toArray w' := by
  have mixed := mixedT
  have hcl0 := R.hO.cells
  simp only [Value.cells] at hcl0
  have hst := R.hO.store Try.prog
  have u33 := Try.underlying33
  have HC : Aside _ := hcmp
  have HQQ := Aside0.mk hQ
  have hl : a ≤ b ∧ b ≤ N := by rw [← hN]; simp only [List.length_append]; omega
  have HA := Aside0.mk ha
  have HQL := Aside0.mk (show a + Q.length = b by omega)
  have HLEN := Aside0.mk (show X.length + Q.length + Y.length = N by rw [← hN]; simp only [List.length_append])
  have HP := Aside0.mk hP
  by_cases hab : a = b
  · have hQ0 : Q = [] := List.eq_nil_of_length_eq_zero (by omega)
    subst hQ0
    have S0 : Aside0 (SW eI w0 blk off (X ++ [] ++ Y).toArray w) := ⟨S⟩
    have hltz : ¬ (a : Int) + 1 < (b : Int) := by omega
    clear S hcmp ha hb hN hQ hP hab
    go_enter Try.func120, Try.ntmps120
    go_wp2
    go_loopg [8] 0 (fun kx s8 wr => s8 = .int .i64 ((a : Int) + 1) ∧ wr = w)
    case atStart => exact ⟨rfl, rfl⟩
    case round =>
      obtain ⟨rfl, rfl⟩ := hrel
      go_wp2
      go_end0
      exact ⟨rfl, [], by simp, by simp, by have := S0.out; simpa using this⟩
  · have hab2 : a < b := by omega
    have S0 : Aside (SW eI w0 blk off (X ++ Q.take 1 ++ Q.drop 1 ++ Y).toArray w) := by
      have h0 : SW eI w0 blk off (X ++ Q.take 1 ++ Q.drop 1 ++ Y).toArray w := by rw [List.append_assoc X, List.take_append_drop]; exact S
      exact h0
    clear S hcmp ha hb hN hQ hP hab
    go_enter Try.func120, Try.ntmps120
    go_wp2
    go_loopg [8] (b - a) (fun kx s8 wr => ∃ (i : Nat) (P : List Int), s8 = .int .i64 i ∧ a < i ∧ i ≤ b ∧ b - i ≤ kx ∧ Aside0 (P.Perm (Q.take (i - a))) ∧ Aside0 (P.Pairwise (Ord kf)) ∧ Aside (SW eI w0 blk off (X ++ P ++ Q.drop (i - a) ++ Y).toArray wr))
    case atStart => exact ⟨a + 1, Q.take 1, by go_num, by omega, by omega, by omega, ⟨by rw [show a + 1 - a = 1 by omega]⟩, ⟨by
      rcases hq : Q with _ | ⟨z, t⟩
      · simp
      · simp⟩, by rw [show a + 1 - a = 1 by omega]; exact S0⟩
    case round =>
      clear S0
      obtain ⟨i, P, rfl, hai, hib, hkx, HPP, HPS, S1⟩ := hrel
      by_cases hlt : i < b
      · have hltz : (i : Int) < (b : Int) := by omega
        have hiQ : i - a < Q.length := by have := HQL.out; omega
        obtain ⟨y, hy⟩ : ∃ y, y = Q[i - a] := ⟨_, rfl⟩
        obtain ⟨Z, hZ⟩ : ∃ Z, Z = Q.drop (i - a + 1) ++ Y := ⟨_, rfl⟩
        have hPl : P.length = i - a := by rw [HPP.out.length_eq, List.length_take]; omega
        have HPL := Aside0.mk hPl
        have HYY := Aside0.mk (show ∀ x ∈ P, x < y from fun x hx => by
          have h0 := HPP.out.mem_iff.1 hx
          obtain ⟨e, he, hei, rfl⟩ := tk_mem h0
          rw [hy]
          exact (List.pairwise_iff_getElem.1 HQQ.out) e (i - a) he hiQ hei)
        have HALLM := Aside0.mk (show ∀ x ∈ X ++ (y :: P) ++ Z, 0 ≤ x ∧ x < (N : Int) from fun x hx => by
          apply HP.out
          rw [hZ] at hx
          simp only [List.mem_append, List.mem_cons] at hx ⊢
          rcases hx with (hx | hx | hx) | hx | hx
          · exact .inl (.inl hx)
          · rw [hx, hy]; exact .inl (.inr (List.getElem_mem hiQ))
          · exact .inl (.inr (List.mem_of_mem_take (HPP.out.mem_iff.1 hx)))
          · exact .inl (.inr (List.mem_of_mem_drop hx))
          · exact .inr hx)
        have S2 : Aside (SW eI w0 blk off (X ++ (P.take P.length ++ y :: P.drop P.length) ++ Z).toArray wr) := by
          have h0 := S1.out
          rw [List.drop_eq_getElem_cons hiQ, ← hy] at h0
          have h1 : SW eI w0 blk off (X ++ (P.take P.length ++ y :: P.drop P.length) ++ Z).toArray wr := by rw [hZ]; simpa using h0
          exact h1
        have HZL := Aside0.mk (show X.length + (P.length + 1) + Z.length = N by have h0 := HLEN.out; have h1 := HPL.out; have h2 := HQL.out; rw [hZ, List.length_append, List.length_drop]; omega)
        have HYQ := Aside0.mk hy
        have HZE := Aside0.mk hZ
        clear S1 hy hZ hPl
        go_wp2
        go_loopg [9] i (fun g2 s9 wr2 => ∃ (j q : Nat), s9 = .int .i64 j ∧ j = a + q ∧ a ≤ j ∧ j ≤ i ∧ j ≤ g2 ∧ Aside0 (∀ x ∈ P.drop q, Ord kf y x) ∧ Aside (SW eI w0 blk off (X ++ (P.take q ++ y :: P.drop q) ++ Z).toArray wr2))
        case atStart => exact ⟨i, P.length, rfl, by have := HPL.out; omega, by omega, by omega, by omega, ⟨by simp⟩, S2⟩
        case round =>
          clear S2
          obtain ⟨j, q, rfl, hjq, haj, hji, hg2, HO, SJ⟩ := hrel
          have HJQ := Aside0.mk hjq
          clear hjq
          have OUT := Aside0.mk (fun (h : ∀ x ∈ P.take q, Ord kf x y) => put_mid (kf := kf) (z := y) (l := P) q HPS.out h HO.out)
          have FIN := Aside0.mk (fun (wz : World) (hS : SW eI w0 blk off (X ++ (P.take q ++ y :: P.drop q) ++ Z).toArray wz) => show SW eI w0 blk off (X ++ (P.take q ++ y :: P.drop q) ++ Q.drop (i + 1 - a) ++ Y).toArray wz from by rw [HZE.out] at hS; rw [show i + 1 - a = i - a + 1 by omega]; simpa [List.append_assoc] using hS)
          have PRM := Aside0.mk (show ∀ M : List Int, M.Perm (y :: P) → M.Perm (Q.take (i + 1 - a)) from fun M hM => by
            rw [show i + 1 - a = i - a + 1 by omega, List.take_succ_eq_append_getElem hiQ, ← HYQ.out]
            exact hM.trans (((List.Perm.cons y HPP.out)).trans (List.perm_append_singleton y _).symm))
          by_cases hja : a < j
          · have hjaz : (a : Int) < (j : Int) := by omega
            obtain ⟨q', hq'⟩ : ∃ q', q = q' + 1 := ⟨q - 1, by have := HJQ.out; omega⟩
            subst hq'
            have hqP : q' < P.length := by have := HJQ.out; have := HPL.out; omega
            obtain ⟨jp, hjp⟩ : ∃ q, q + 1 = j := ⟨j - 1, by omega⟩
            have zjp : (j : Int) = (jp : Int) + 1 := by omega
            have hjad : decide ((jp : Int) + 1 > (a : Int)) = true := decide_eq_true (by omega)
            have hjaz' : (a : Int) < (jp : Int) + 1 := by omega
            obtain ⟨dq, hdq⟩ : ∃ dq, dq = (X ++ (P.take (q' + 1) ++ y :: P.drop (q' + 1)) ++ Z).toArray := ⟨_, rfl⟩
            have hds : dq.size = N := by rw [hdq]; have := HZL.out; simp; omega
            have HALL := Aside0.mk (show ∀ i, i < N → 0 ≤ dq[i]! ∧ dq[i]! < (N : Int) from fun i hi => by
              rw [hdq]
              refine all_idx (fun x hx => HALLM.out x ?_) i (by have := HZL.out; simp; omega)
              rw [List.mem_append, List.mem_append] at hx ⊢
              rcases hx with (hx | hx) | hx
              · exact .inl (.inl hx)
              · refine .inl (.inr ?_)
                have := (List.perm_middle (a := y) (l₁ := P.take (q' + 1)) (l₂ := P.drop (q' + 1))).mem_iff.1 hx
                rwa [List.take_append_drop] at this
              · exact .inr hx)
            have ey : dq[j]! = y := by
              rw [hdq, show X ++ (P.take (q' + 1) ++ y :: P.drop (q' + 1)) ++ Z = (X ++ P.take (q' + 1)) ++ y :: (P.drop (q' + 1) ++ Z) by simp]
              exact get_mid _ _ y _ (by have := HJQ.out; have := HA.out; simp only [List.length_append, List.length_take]; omega)
            have ep : dq[j - 1]! = P[q'] := by
              rw [hdq, List.take_succ_eq_append_getElem hqP, show X ++ (P.take q' ++ [P[q']] ++ y :: P.drop (q' + 1)) ++ Z = (X ++ P.take q') ++ P[q'] :: (y :: P.drop (q' + 1) ++ Z) by simp only [List.append_assoc, List.cons_append, List.nil_append]]
              exact get_mid _ _ _ _ (by have := HJQ.out; have := HA.out; simp only [List.length_append, List.length_take]; omega)
            have hsw : swp dq j (j - 1) = (X ++ (P.take q' ++ y :: P.drop q') ++ Z).toArray := by rw [hdq]; exact swp_bwd X Z P y q' j hqP (by have := HJQ.out; have := HA.out; omega)
            have HT := Aside0.mk (show cfK kf dq[j]! dq[j - 1]! < 0 ↔ kf y < kf P[q'] by rw [cfK_lt, ey, ep])
            rw [← hdq] at SJ
            have HDQ := Aside0.mk hdq
            clear ey ep hdq
            by_cases hcf : cfK kf dq[j]! dq[j - 1]! < 0
            · have HF := Aside0.mk (HT.out.1 hcf)
              have HSW := Aside0.mk hsw
              clear hsw
              obtain ⟨iN1, hiN1⟩ : ∃ qq, qq = j := ⟨_, rfl⟩
              obtain ⟨jN1, hjN1⟩ : ∃ qq, qq = j - 1 := ⟨_, rfl⟩
              have ea1 : ((jp : Int) + 1).toNat = iN1 := by omega
              have pa1 : (0 : Int) ≤ (jp : Int) + 1 := by omega
              have ba1 : (jp : Int) + 1 < (N : Int) := by omega
              have ec1 : ((jp : Int)).toNat = jN1 := by omega
              have pc1 : (0 : Int) ≤ (jp : Int) := by omega
              have bc1 : (jp : Int) < (N : Int) := by omega
              have ra1 : IntKind.i64.wrap ((jp : Int) + 1) = (jp : Int) + 1 := by rw [IntKind.wrap_i64]; omega
              have rc1 : IntKind.i64.wrap ((jp : Int)) = (jp : Int) := by rw [IntKind.wrap_i64]; omega
              obtain ⟨x1, hx1⟩ : ∃ x, x = dq[j]! := ⟨_, rfl⟩
              obtain ⟨y1, hy1⟩ : ∃ x, x = dq[j - 1]! := ⟨_, rfl⟩
              have l1a := SJ.out.cl R (by rw [hds, hs]) (j) (by omega)
              have l1b := SJ.out.cl R (by rw [hds, hs]) (j - 1) (by omega)
              rw [← hx1, ← hiN1] at l1a
              rw [← hy1, ← hjN1] at l1b
              have hc1 := sw_cmpOn SJ.out HC.out hds x1 y1 (by rw [hx1]; exact HALL.out (j) (by omega)) (by rw [hy1]; exact HALL.out (j - 1) (by omega))
              have hv1 : cfK kf x1 y1 < 0 := by rw [hx1, hy1]; exact hcf
              have hd1 : decide (cfK kf x1 y1 < 0) = true := decide_eq_true hv1
              clear hx1 hy1 hiN1 hjN1 hcf
              go_wp2_with fail
              go_quiet_grown (first | (go_at_fn g; refine Calls.grown_of (hc1 _ _)))
              have S2 : Aside (SW eI w0 blk off dq (grow (wr.drewN nq) osq)) := SJ.out.grown nq osq
              clear l1a l1b hc1 SJ
              generalize grow (wr.drewN nq) osq = w2 at S2 ⊢
              clear nq osq
              clear ea1 ec1
              go_wp2_with fail
              have hsw := HSW.out
              obtain ⟨iN2, hiN2⟩ : ∃ qq, qq = j := ⟨_, rfl⟩
              obtain ⟨jN2, hjN2⟩ : ∃ qq, qq = j - 1 := ⟨_, rfl⟩
              have ea2 : ((jp : Int) + 1).toNat = iN2 := by omega
              have pa2 : (0 : Int) ≤ (jp : Int) + 1 := by omega
              have ba2 : (jp : Int) + 1 < (N : Int) := by omega
              have ec2 : ((jp : Int)).toNat = jN2 := by omega
              have pc2 : (0 : Int) ≤ (jp : Int) := by omega
              have bc2 : (jp : Int) < (N : Int) := by omega
              have ra2 : IntKind.i64.wrap ((jp : Int) + 1) = (jp : Int) + 1 := by rw [IntKind.wrap_i64]; omega
              have rc2 : IntKind.i64.wrap ((jp : Int)) = (jp : Int) := by rw [IntKind.wrap_i64]; omega
              obtain ⟨x2, hx2⟩ : ∃ x, x = dq[j]! := ⟨_, rfl⟩
              obtain ⟨y2, hy2⟩ : ∃ x, x = dq[j - 1]! := ⟨_, rfl⟩
              have S3 : Aside (SW eI w0 blk off (swp dq (j) (j - 1)) ((w2.setCell ⟨blk, off + iN2, none⟩ (eI y2)).setCell ⟨blk, off + jN2, none⟩ (eI x2)).drew) := by rw [hiN2, hjN2, hx2, hy2]; exact S2.out.swapped R (j) (j - 1) (by omega) (by omega)
              have c2a := S2.out.c1 R (by rw [hds, hs]) (j) (by omega)
              have c2b := S2.out.c1 R (by rw [hds, hs]) (j - 1) (by omega)
              have f2a := S2.out.f1 R (by rw [hds, hs]) (j) (by omega)
              have f2b := S2.out.f1 R (by rw [hds, hs]) (j - 1) (by omega)
              obtain ⟨u2, c2c⟩ := S2.out.c2 R (by rw [hds, hs]) (j) (j - 1) (by omega) (by omega) (eI y2)
              rw [← hjN2, ← hiN2] at c2c
              rw [← hx2, ← hiN2] at c2a
              rw [← hy2, ← hjN2] at c2b
              rw [← hiN2] at f2a
              rw [← hjN2] at f2b
              rw [hsw] at S3
              clear S2 hx2 hy2 hiN2 hjN2 hsw
              go_wp2_with fail
              go_big_region
              clear c2a c2b c2c f2a f2b
              generalize ((w2.setCell ⟨blk, off + iN2, none⟩ (eI y2)).setCell ⟨blk, off + jN2, none⟩ (eI x2)).drew = w3 at S3 ⊢
              clear ea2 ec2
              go_wp2
              go_roundg (j - 1)
              case measure => omega
              case rel => exact ⟨j - 1, q', by first | rfl | go_num | (congr 1; omega), by have := HJQ.out; omega, by omega, by omega, Nat.le_refl _, ⟨fun x hx => by
                rw [List.drop_eq_getElem_cons hqP] at hx
                rcases List.mem_cons.1 hx with rfl | hx
                · exact .inl HF.out
                · exact HO.out x hx⟩, S3⟩
            · have HF := Aside0.mk (show ¬ kf y < kf P[q'] from fun h => hcf (HT.out.2 h))
              clear hsw
              obtain ⟨iN3, hiN3⟩ : ∃ qq, qq = j := ⟨_, rfl⟩
              obtain ⟨jN3, hjN3⟩ : ∃ qq, qq = j - 1 := ⟨_, rfl⟩
              have ea3 : ((jp : Int) + 1).toNat = iN3 := by omega
              have pa3 : (0 : Int) ≤ (jp : Int) + 1 := by omega
              have ba3 : (jp : Int) + 1 < (N : Int) := by omega
              have ec3 : ((jp : Int)).toNat = jN3 := by omega
              have pc3 : (0 : Int) ≤ (jp : Int) := by omega
              have bc3 : (jp : Int) < (N : Int) := by omega
              have ra3 : IntKind.i64.wrap ((jp : Int) + 1) = (jp : Int) + 1 := by rw [IntKind.wrap_i64]; omega
              have rc3 : IntKind.i64.wrap ((jp : Int)) = (jp : Int) := by rw [IntKind.wrap_i64]; omega
              obtain ⟨x3, hx3⟩ : ∃ x, x = dq[j]! := ⟨_, rfl⟩
              obtain ⟨y3, hy3⟩ : ∃ x, x = dq[j - 1]! := ⟨_, rfl⟩
              have l3a := SJ.out.cl R (by rw [hds, hs]) (j) (by omega)
              have l3b := SJ.out.cl R (by rw [hds, hs]) (j - 1) (by omega)
              rw [← hx3, ← hiN3] at l3a
              rw [← hy3, ← hjN3] at l3b
              have hc3 := sw_cmpOn SJ.out HC.out hds x3 y3 (by rw [hx3]; exact HALL.out (j) (by omega)) (by rw [hy3]; exact HALL.out (j - 1) (by omega))
              have hv3 : ¬ cfK kf x3 y3 < 0 := by rw [hx3, hy3]; exact hcf
              have hd3 : decide (cfK kf x3 y3 < 0) = false := decide_eq_false hv3
              clear hx3 hy3 hiN3 hjN3 hcf
              go_wp2_with fail
              go_quiet_grown (first | (go_at_fn g; refine Calls.grown_of (hc3 _ _)))
              have S2 : Aside (SW eI w0 blk off dq (grow (wr.drewN nq) osq)) := SJ.out.grown nq osq
              clear l3a l3b hc3 SJ
              generalize grow (wr.drewN nq) osq = w2 at S2 ⊢
              clear nq osq
              clear ea3 ec3
              go_wp2
              go_roundg (b - (i + 1))
              case measure => omega
              case rel =>
                obtain ⟨o1, o2⟩ := OUT.out (fun x hx => by
                  obtain ⟨e, he, hei, rfl⟩ := tk_mem hx
                  have h1 := key_at HPS.out (show e ≤ q' by omega) hqP
                  have h2 := HYY.out P[e] (List.getElem_mem he)
                  have h3 := HF.out
                  unfold Ord
                  omega)
                exact ⟨i + 1, _, by go_num, by omega, by omega, Nat.le_refl _, ⟨PRM.out _ o1⟩, ⟨o2⟩, FIN.out _ (by have h0 := S2.out; rw [HDQ.out] at h0; exact h0)⟩
          · have hjaz : decide ((j : Int) > (a : Int)) = false := decide_eq_false (by omega)
            have hjaz' : ¬ (a : Int) < (j : Int) := by omega
            have hq0 : q = 0 := by have := HJQ.out; omega
            go_wp2_with fail
            go_big_region
            have S2 : Aside (SW eI w0 blk off (X ++ (P.take q ++ y :: P.drop q) ++ Z).toArray wr.drew) := SJ.out.drew
            clear SJ
            generalize wr.drew = w2 at S2 ⊢
            go_wp2
            go_roundg (b - (i + 1))
            case measure => omega
            case rel =>
              obtain ⟨o1, o2⟩ := OUT.out (fun x hx => by rw [hq0] at hx; simp at hx)
              exact ⟨i + 1, _, by go_num, by omega, by omega, Nat.le_refl _, ⟨PRM.out _ o1⟩, ⟨o2⟩, FIN.out _ S2.out⟩
      · have hltz : ¬ (i : Int) < (b : Int) := by omega
        have HIB := Aside0.mk (show i = b by omega)
        go_wp2
        go_end0
        have hp := HPP.out
        have hs1 := S1.out
        rw [List.take_of_length_le (by have := HQL.out; have := HIB.out; omega)] at hp
        rw [List.drop_eq_nil_of_le (by have := HQL.out; have := HIB.out; omega), List.append_nil] at hs1
        exact ⟨rfl, P, hp, HPS.out, by simpa [List.append_assoc] using hs1⟩
end Go.Proofs.Ytningpmoojnomaa.Pr
end
