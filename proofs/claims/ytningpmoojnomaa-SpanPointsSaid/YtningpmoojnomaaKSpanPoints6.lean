/- What the proof of the law needs, trimmed and merged by wip/pack.py out of the texts YtningpmoojnomaaExtSym. No condition. -/
import Derived.Test.YtningpmoojnomaaKSpanPoints0
import Derived.Test.YtningpmoojnomaaKSpanPoints1
import Derived.Test.YtningpmoojnomaaKSpanPoints2
import Derived.Test.YtningpmoojnomaaKSpanPoints3
import Derived.Test.YtningpmoojnomaaKSpanPoints4
import Derived.Test.YtningpmoojnomaaKSpanPoints5
section
namespace Go.Proofs.Ytningpmoojnomaa.Pr
open Go.Shelf Go.RowKit Go.Lib Go.Sort Go.Proofs.YtningpmoojnomaaW.PrintWords
set_option linter.unusedVariables false
set_option linter.unusedSimpArgs false
def cfK (kf : Int → Int) (x y : Int) : Int := Lib.compareInt (kf x) (kf y)
theorem cfK_lt (kf : Int → Int) (x y : Int) : cfK kf x y < 0 ↔ kf x < kf y := by
  unfold cfK Lib.compareInt
  by_cases h : kf x < kf y
  · simp [h]
  · by_cases h2 : kf x > kf y
    · simp [h, h2]
    · simp [h, h2]
/-- What is asked of the comparison: at two indexes below N it answers by the key; it may lay blocks and turns nothing. -/
def CmpOn (kf : Int → Int) (g : Nat) (cb : Array Value) (blk off N : Nat) (w : World) : Prop :=
  ∀ (m : Nat) (os : Array Obj) (dk : Array Int), dk.size = N → ∀ x y : Int, (0 ≤ x ∧ x < (N : Int)) → (0 ≤ y ∧ y < (N : Int)) →
    Calls Try.prog g (#[eI x, eI y] ++ cb) (sortWorld eI w blk off m dk os) fun e w' => e = .returned (.int .i64 (cfK kf x y)) ∧ ∃ q os', w' = grow ((sortWorld eI w blk off m dk os).drewN q) os'
theorem sw_cmpOn {kf : Int → Int} {g : Nat} {cb : Array Value} {blk off N : Nat} {w0 W : World} {dk : Array Int} (h : SW eI w0 blk off dk W) (hC : CmpOn kf g cb blk off N w0) (hs : dk.size = N) (x y : Int) (hx : 0 ≤ x ∧ x < (N : Int)) (hy : 0 ≤ y ∧ y < (N : Int)) (n : Nat) (os : Array Obj) :
    Calls Try.prog g (#[eI x, eI y] ++ cb) (grow (W.drewN n) os) fun e w' => e = .returned (.int .i64 (cfK kf x y)) ∧ ∃ q os', w' = grow ((grow (W.drewN n) os).drewN q) os' := by
  obtain ⟨m, os0, hw⟩ := h.grown n os
  rw [hw]
  exact hC m os0 dk hs x y hx hy
theorem all_idx {N : Nat} {l : List Int} (h : ∀ x ∈ l, 0 ≤ x ∧ x < (N : Int)) (i : Nat) (hi : i < l.length) : 0 ≤ l.toArray[i]! ∧ l.toArray[i]! < (N : Int) := by
  rw [getElem!_pos l.toArray i (by simpa using hi)]
  simp only [List.getElem_toArray]
  exact h _ (List.getElem_mem hi)
theorem mixedT : Try.prog.follows .mixedOrders = true := by kernel_rfl
theorem at_idx (l : List Int) (i : Nat) (h : i < l.length) : l.toArray[i]! = l[i] := by
  rw [getElem!_pos l.toArray i (by simpa using h)]
  simp
theorem at_idx_mid (X M Y : List Int) (i k : Nat) (hi : i = X.length + k) (hk : k < M.length) : (X ++ M ++ Y).toArray[i]! = M[k] := by
  subst hi
  rw [at_idx _ _ (by simp; omega), List.getElem_append_left (by simp; omega), List.getElem_append_right (by omega)]
  simp
theorem tk_mem {l : List Int} {n : Nat} {z : Int} (hz : z ∈ l.take n) : ∃ i, ∃ h : i < l.length, i < n ∧ z = l[i] := by
  obtain ⟨i, hi, rfl⟩ := List.mem_iff_getElem.1 hz
  rw [List.length_take] at hi
  exact ⟨i, by omega, by omega, by rw [List.getElem_take]⟩
theorem dr_mem {l : List Int} {n : Nat} {z : Int} (hz : z ∈ l.drop n) : ∃ i, ∃ h : i < l.length, n ≤ i ∧ z = l[i] := by
  obtain ⟨i, hi, rfl⟩ := List.mem_iff_getElem.1 hz
  rw [List.length_drop] at hi
  exact ⟨n + i, by omega, by omega, by rw [List.getElem_drop]⟩
theorem put_mid {kf : Int → Int} {z : Int} {l : List Int} (q : Nat) (hl : l.Pairwise (Ord kf)) (h1 : ∀ x ∈ l.take q, Ord kf x z) (h2 : ∀ x ∈ l.drop q, Ord kf z x) : (l.take q ++ z :: l.drop q).Perm (z :: l) ∧ (l.take q ++ z :: l.drop q).Pairwise (Ord kf) := by
  constructor
  · refine List.perm_middle.trans ?_
    rw [List.take_append_drop]
  · have hl' := hl
    rw [← List.take_append_drop q l, List.pairwise_append] at hl'
    rw [List.pairwise_append, List.pairwise_cons]
    refine ⟨hl'.1, ⟨h2, hl'.2.1⟩, fun x hx y hy => ?_⟩
    rcases List.mem_cons.1 hy with rfl | hy
    · exact h1 x hx
    · exact hl'.2.2 x hx y hy
theorem swp_fwd (X Y l : List Int) (z : Int) (q i : Nat) (hq : q < l.length) (hi : i = X.length + q) : swp (X ++ (l.take q ++ z :: l.drop q) ++ Y).toArray i (i + 1) = (X ++ (l.take (q + 1) ++ z :: l.drop (q + 1)) ++ Y).toArray := by
  have e := swp_mid (X ++ l.take q) [] (l.drop (q + 1) ++ Y) z l[q] i (i + 1) (by simp; omega) (by simp; omega)
  rw [List.drop_eq_getElem_cons hq, List.take_succ_eq_append_getElem hq]
  simp only [List.append_assoc, List.cons_append, List.nil_append] at e ⊢
  exact e
theorem swp_bwd (X Y l : List Int) (z : Int) (q i : Nat) (hq : q < l.length) (hi : i = X.length + (q + 1)) : swp (X ++ (l.take (q + 1) ++ z :: l.drop (q + 1)) ++ Y).toArray i (i - 1) = (X ++ (l.take q ++ z :: l.drop q) ++ Y).toArray := by
  have e := swp_back (X ++ l.take q) (l.drop (q + 1) ++ Y) l[q] z i (i - 1) (by simp; omega) (by simp; omega)
  rw [List.drop_eq_getElem_cons hq, List.take_succ_eq_append_getElem hq]
  simp only [List.append_assoc, List.cons_append, List.nil_append] at e ⊢
  exact e
set_option maxHeartbeats 8000000 in
set_option maxRecDepth 1000000 in
theorem symOne_c (kf : Int → Int) (g : Nat) (cb : Array Value) (blk off cap N : Nat) (d0 : Array Int) (w0 : World) (R : Row1 eI w0 blk off d0) (hs : d0.size = N) (hcmp : CmpOn kf g cb blk off N w0) (eg : ∀ args w, (callFunc g args).run Try.prog w = .ok (.enter g args) w) (hsz : N < 4611686018427387904) (w : World) (a m b : Nat) (X Rr Y : List Int) (z : Int) (ha : a = X.length) (hm : m = X.length + 1) (hb : b = X.length + 1 + Rr.length) (hN : (X ++ z :: Rr ++ Y).length = N) (hR : Rr.Pairwise (Ord kf)) (hz : ∀ r ∈ Rr, z < r) (hP : ∀ x ∈ X ++ z :: Rr ++ Y, 0 ≤ x ∧ x < (N : Int))
    (S : SW eI w0 blk off (X ++ z :: Rr ++ Y).toArray w) :
    Calls Try.prog 121 #[.slice (some ⟨blk, off, none⟩) N cap, .int .i64 a, .int .i64 m, .int .i64 b, .func (.func g) #[] cb] w fun e w' => e = .returned (.tuple #[]) ∧ ∃ M, M.Perm (z :: Rr) ∧ M.Pairwise (Ord kf) ∧ SW eI w0 blk off (X ++ M ++ Y).toArray w' := by
  have mixed := mixedT
  have hcl0 := R.hO.cells
  simp only [Value.cells] at hcl0
  have hst := R.hO.store Try.prog
  have u33 := Try.underlying33
  have HC : Aside _ := hcmp
  have HR := Aside0.mk hR
  have HZ := Aside0.mk hz
  have hl : a + 1 = m ∧ m ≤ b ∧ b ≤ N := by rw [← hN]; simp; omega
  have HA := Aside0.mk ha
  have HRL := Aside0.mk (show m + Rr.length = b by omega)
  obtain ⟨dk, hdk⟩ : ∃ dk, dk = (X ++ z :: Rr ++ Y).toArray := ⟨_, rfl⟩
  have hds : dk.size = N := by rw [hdk, ← hN]; simp
  have HALL := Aside0.mk (show ∀ i, i < N → 0 ≤ dk[i]! ∧ dk[i]! < (N : Int) from fun i hi => by rw [hdk]; exact all_idx hP i (by rw [hN]; exact hi))
  have HA0 := Aside0.mk (show dk[a]! = z by rw [hdk, ha, List.append_assoc]; exact get_mid _ _ z _ rfl)
  have HAT := Aside0.mk (show ∀ k, (hk : k < Rr.length) → dk[m + k]! = Rr[k] from fun k hk => by
    rw [hdk, show X ++ z :: Rr ++ Y = (X ++ [z]) ++ Rr ++ Y by simp]
    exact at_idx_mid _ _ _ _ k (by simp; omega) hk)
  rw [← hdk] at S
  have HDK := Aside0.mk hdk
  have S0 : Aside (SW eI w0 blk off dk w) := S
  clear S hcmp ha hm hb hN hR hz hP hdk
  have hma : IntKind.i64.wrap ((m : Int) - (a : Int)) = 1 := by rw [IntKind.wrap_i64]; omega
  have hma' : (m : Int) - (a : Int) = 1 := by omega
  go_enter Try.func121, Try.ntmps121
  go_wp2
  go_loopg [10, 11] (b - m) (fun kx s10 s11 wr => ∃ (i j : Nat), s10 = .int .i64 i ∧ s11 = .int .i64 j ∧ m ≤ i ∧ i ≤ j ∧ j ≤ b ∧ j - i ≤ kx ∧ Aside0 (∀ k, (hk : k < Rr.length) → m + k < i → kf Rr[k] < kf z) ∧ Aside0 (∀ k, (hk : k < Rr.length) → j ≤ m + k → ¬ kf Rr[k] < kf z) ∧ Aside (SW eI w0 blk off dk wr))
  case atStart => exact ⟨m, b, rfl, rfl, by omega, by omega, by omega, by omega, ⟨fun k hk h => by omega⟩, ⟨fun k hk h => by have := HRL.out; omega⟩, S0⟩
  case round =>
    clear S0
    obtain ⟨i, j, rfl, rfl, hmi, hij, hjb, hkx, HI, HJ, S1⟩ := hrel
    by_cases hlt : i < j
    · have hltz : (i : Int) < (j : Int) := by omega
      obtain ⟨h, hh⟩ : ∃ h : Nat, h = (i + j) / 2 := ⟨_, rfl⟩
      have hhz : ((i : Int) + (j : Int)) / 2 = (h : Int) := by omega
      have hhb : m ≤ h ∧ i ≤ h ∧ h < j := by omega
      have HH := Aside0.mk hh
      clear hh
      have hrk : h - m < Rr.length := by have := HRL.out; omega
      have hat : dk[h]! = Rr[h - m] := by have := HAT.out (h - m) hrk; rwa [show m + (h - m) = h by omega] at this
      have HK := Aside0.mk hrk
      have HT := Aside0.mk (show cfK kf dk[h]! dk[a]! < 0 ↔ kf Rr[h - m] < kf z by rw [cfK_lt, hat, HA0.out])
      clear hat
      by_cases hcf : cfK kf dk[h]! dk[a]! < 0
      · have HF := Aside0.mk (HT.out.1 hcf)
        obtain ⟨iN1, hiN1⟩ : ∃ qq, qq = h := ⟨_, rfl⟩
        obtain ⟨jN1, hjN1⟩ : ∃ qq, qq = a := ⟨_, rfl⟩
        have ea1 : ((h : Int)).toNat = iN1 := by omega
        have pa1 : (0 : Int) ≤ (h : Int) := by omega
        have ba1 : (h : Int) < (N : Int) := by omega
        have ec1 : ((a : Int)).toNat = jN1 := by omega
        have pc1 : (0 : Int) ≤ (a : Int) := by omega
        have bc1 : (a : Int) < (N : Int) := by omega
        have ra1 : IntKind.i64.wrap ((h : Int)) = (h : Int) := by rw [IntKind.wrap_i64]; omega
        have rc1 : IntKind.i64.wrap ((a : Int)) = (a : Int) := by rw [IntKind.wrap_i64]; omega
        obtain ⟨x1, hx1⟩ : ∃ x, x = dk[h]! := ⟨_, rfl⟩
        obtain ⟨y1, hy1⟩ : ∃ x, x = dk[a]! := ⟨_, rfl⟩
        have l1a := S1.out.cl R (by rw [hds, hs]) (h) (by omega)
        have l1b := S1.out.cl R (by rw [hds, hs]) (a) (by omega)
        rw [← hx1, ← hiN1] at l1a
        rw [← hy1, ← hjN1] at l1b
        have hc1 := sw_cmpOn S1.out HC.out hds x1 y1 (by rw [hx1]; exact HALL.out (h) (by omega)) (by rw [hy1]; exact HALL.out (a) (by omega))
        have hv1 : cfK kf x1 y1 < 0 := by rw [hx1, hy1]; exact hcf
        have hd1 : decide (cfK kf x1 y1 < 0) = true := decide_eq_true hv1
        clear hx1 hy1 hiN1 hjN1 hcf
        go_wp2_with fail
        go_quiet_grown (first | (go_at_fn g; refine Calls.grown_of (hc1 _ _)))
        have S2 : Aside (SW eI w0 blk off dk (grow (wr.drewN nq) osq)) := S1.out.grown nq osq
        clear l1a l1b hc1 S1
        generalize grow (wr.drewN nq) osq = w2 at S2 ⊢
        clear nq osq
        clear ea1 ec1
        go_wp2
        go_roundg (j - (h + 1))
        case measure => omega
        case rel =>
          refine ⟨h + 1, j, by go_num, rfl, by omega, by omega, by omega, by omega, ⟨fun k hk hki => ?_⟩, HJ, S2⟩
          have := key_at HR.out (show k ≤ h - m by omega) HK.out
          have := HF.out
          omega
      · have HF := Aside0.mk (show ¬ kf Rr[h - m] < kf z from fun h => hcf (HT.out.2 h))
        obtain ⟨iN2, hiN2⟩ : ∃ qq, qq = h := ⟨_, rfl⟩
        obtain ⟨jN2, hjN2⟩ : ∃ qq, qq = a := ⟨_, rfl⟩
        have ea2 : ((h : Int)).toNat = iN2 := by omega
        have pa2 : (0 : Int) ≤ (h : Int) := by omega
        have ba2 : (h : Int) < (N : Int) := by omega
        have ec2 : ((a : Int)).toNat = jN2 := by omega
        have pc2 : (0 : Int) ≤ (a : Int) := by omega
        have bc2 : (a : Int) < (N : Int) := by omega
        have ra2 : IntKind.i64.wrap ((h : Int)) = (h : Int) := by rw [IntKind.wrap_i64]; omega
        have rc2 : IntKind.i64.wrap ((a : Int)) = (a : Int) := by rw [IntKind.wrap_i64]; omega
        obtain ⟨x2, hx2⟩ : ∃ x, x = dk[h]! := ⟨_, rfl⟩
        obtain ⟨y2, hy2⟩ : ∃ x, x = dk[a]! := ⟨_, rfl⟩
        have l2a := S1.out.cl R (by rw [hds, hs]) (h) (by omega)
        have l2b := S1.out.cl R (by rw [hds, hs]) (a) (by omega)
        rw [← hx2, ← hiN2] at l2a
        rw [← hy2, ← hjN2] at l2b
        have hc2 := sw_cmpOn S1.out HC.out hds x2 y2 (by rw [hx2]; exact HALL.out (h) (by omega)) (by rw [hy2]; exact HALL.out (a) (by omega))
        have hv2 : ¬ cfK kf x2 y2 < 0 := by rw [hx2, hy2]; exact hcf
        have hd2 : decide (cfK kf x2 y2 < 0) = false := decide_eq_false hv2
        clear hx2 hy2 hiN2 hjN2 hcf
        go_wp2_with fail
        go_quiet_grown (first | (go_at_fn g; refine Calls.grown_of (hc2 _ _)))
        have S2 : Aside (SW eI w0 blk off dk (grow (wr.drewN nq) osq)) := S1.out.grown nq osq
        clear l2a l2b hc2 S1
        generalize grow (wr.drewN nq) osq = w2 at S2 ⊢
        clear nq osq
        clear ea2 ec2
        go_wp2
        go_roundg (h - i)
        case measure => omega
        case rel =>
          refine ⟨i, h, rfl, rfl, by omega, by omega, by omega, by omega, HI, ⟨fun k hk hki => ?_⟩, S2⟩
          have := key_at HR.out (show h - m ≤ k by omega) hk
          have := HF.out
          omega
    · have hltz : ¬ (i : Int) < (j : Int) := by omega
      obtain rfl : i = j := by omega
      have hi1 : (i : Int) - 1 = ((i - 1 : Nat) : Int) := by omega
      have S2 : Aside (SW eI w0 blk off (X ++ (Rr.take 0 ++ z :: Rr.drop 0) ++ Y).toArray wr) := by
        have h1 := S1.out
        rw [HDK.out] at h1
        have h2 : SW eI w0 blk off (X ++ (Rr.take 0 ++ z :: Rr.drop 0) ++ Y).toArray wr := by simpa using h1
        exact h2
      clear S1
      go_wp2
      go_loopg [13] (i - 1 - a) (fun kx s13 wr2 => ∃ (k q : Nat), s13 = .int .i64 k ∧ k = a + q ∧ k + 1 ≤ i ∧ i - 1 - k ≤ kx ∧ Aside (SW eI w0 blk off (X ++ (Rr.take q ++ z :: Rr.drop q) ++ Y).toArray wr2))
      case atStart => exact ⟨a, 0, rfl, by omega, by omega, by omega, S2⟩
      case round =>
        clear S2
        obtain ⟨k, q, rfl, hkq, hki, hkx2, S3⟩ := hrel
        have HQ := Aside0.mk hkq
        clear hkq
        by_cases hlt2 : k + 1 < i
        · have hltz2 : (k : Int) < ((i - 1 : Nat) : Int) := by omega
          have hqr : q < Rr.length := by have := HQ.out; have := HRL.out; omega
          obtain ⟨dq, hdq⟩ : ∃ dq, dq = (X ++ (Rr.take q ++ z :: Rr.drop q) ++ Y).toArray := ⟨_, rfl⟩
          have hdsq : dq.size = N := by
            have h1 := HDK.out
            rw [← hds, h1, hdq]
            simp
            omega
          have hsw : swp dq k (k + 1) = (X ++ (Rr.take (q + 1) ++ z :: Rr.drop (q + 1)) ++ Y).toArray := by rw [hdq]; exact swp_fwd X Y Rr z q k hqr (by have := HQ.out; have := HA.out; omega)
          rw [← hdq] at S3
          clear hdq
          obtain ⟨iN3, hiN3⟩ : ∃ qq, qq = k := ⟨_, rfl⟩
          obtain ⟨jN3, hjN3⟩ : ∃ qq, qq = k + 1 := ⟨_, rfl⟩
          have ea3 : ((k : Int)).toNat = iN3 := by omega
          have pa3 : (0 : Int) ≤ (k : Int) := by omega
          have ba3 : (k : Int) < (N : Int) := by omega
          have ec3 : ((k : Int) + 1).toNat = jN3 := by omega
          have pc3 : (0 : Int) ≤ (k : Int) + 1 := by omega
          have bc3 : (k : Int) + 1 < (N : Int) := by omega
          have ra3 : IntKind.i64.wrap ((k : Int)) = (k : Int) := by rw [IntKind.wrap_i64]; omega
          have rc3 : IntKind.i64.wrap ((k : Int) + 1) = (k : Int) + 1 := by rw [IntKind.wrap_i64]; omega
          obtain ⟨x3, hx3⟩ : ∃ x, x = dq[k]! := ⟨_, rfl⟩
          obtain ⟨y3, hy3⟩ : ∃ x, x = dq[k + 1]! := ⟨_, rfl⟩
          have S4 : Aside (SW eI w0 blk off (swp dq (k) (k + 1)) ((wr.setCell ⟨blk, off + iN3, none⟩ (eI y3)).setCell ⟨blk, off + jN3, none⟩ (eI x3)).drew) := by rw [hiN3, hjN3, hx3, hy3]; exact S3.out.swapped R (k) (k + 1) (by omega) (by omega)
          have c3a := S3.out.c1 R (by rw [hdsq, hs]) (k) (by omega)
          have c3b := S3.out.c1 R (by rw [hdsq, hs]) (k + 1) (by omega)
          have f3a := S3.out.f1 R (by rw [hdsq, hs]) (k) (by omega)
          have f3b := S3.out.f1 R (by rw [hdsq, hs]) (k + 1) (by omega)
          obtain ⟨u3, c3c⟩ := S3.out.c2 R (by rw [hdsq, hs]) (k) (k + 1) (by omega) (by omega) (eI y3)
          rw [← hjN3, ← hiN3] at c3c
          rw [← hx3, ← hiN3] at c3a
          rw [← hy3, ← hjN3] at c3b
          rw [← hiN3] at f3a
          rw [← hjN3] at f3b
          rw [hsw] at S4
          clear S3 hx3 hy3 hiN3 hjN3 hsw
          go_wp2_with fail
          go_big_region
          clear c3a c3b c3c f3a f3b
          generalize ((wr.setCell ⟨blk, off + iN3, none⟩ (eI y3)).setCell ⟨blk, off + jN3, none⟩ (eI x3)).drew = w4 at S4 ⊢
          clear ea3 ec3
          go_wp2
          go_roundg (i - 1 - (k + 1))
          case measure => omega
          case rel => exact ⟨k + 1, q + 1, by go_num, by have := HQ.out; omega, by omega, by omega, S4⟩
        · have hltz2 : ¬ (k : Int) < ((i - 1 : Nat) : Int) := by omega
          go_wp2
          refine bodyPost_ret (results_none rfl _ _ _) rfl ?_
          have hq := HQ.out
          have hrl := HRL.out
          obtain ⟨p1, p2⟩ := put_mid (kf := kf) (z := z) (l := Rr) q HR.out (fun x hx => by
            obtain ⟨e, he, heq, rfl⟩ := tk_mem hx
            exact .inl (HI.out e he (by omega))) (fun x hx => by
            obtain ⟨e, he, heq, rfl⟩ := dr_mem hx
            have h1 := HJ.out e he (by omega)
            have h2 := HZ.out Rr[e] (List.getElem_mem he)
            unfold Ord
            omega)
          exact ⟨rfl, _, p1, p2, by have h3 := S3.out; simpa [List.append_assoc] using h3⟩
set_option maxHeartbeats 8000000 in
set_option maxRecDepth 1000000 in
theorem symLast_c (kf : Int → Int) (g : Nat) (cb : Array Value) (blk off cap N : Nat) (d0 : Array Int) (w0 : World) (R : Row1 eI w0 blk off d0) (hs : d0.size = N) (hcmp : CmpOn kf g cb blk off N w0) (eg : ∀ args w, (callFunc g args).run Try.prog w = .ok (.enter g args) w) (hsz : N < 4611686018427387904) (w : World) (a m b : Nat) (X L Y : List Int) (y : Int) (ha : a = X.length) (hm : m = X.length + L.length) (hb : b = X.length + L.length + 1) (hL2 : L.length ≠ 1) (hN : (X ++ (L ++ y :: []) ++ Y).length = N) (hR : L.Pairwise (Ord kf)) (hz : ∀ r ∈ L, r < y) (hP : ∀ x ∈ X ++ (L ++ y :: []) ++ Y, 0 ≤ x ∧ x < (N : Int))
    (S : SW eI w0 blk off (X ++ (L ++ y :: []) ++ Y).toArray w) :
    Calls Try.prog 121 #[.slice (some ⟨blk, off, none⟩) N cap, .int .i64 a, .int .i64 m, .int .i64 b, .func (.func g) #[] cb] w fun e w' => e = .returned (.tuple #[]) ∧ ∃ M, M.Perm (y :: L) ∧ M.Pairwise (Ord kf) ∧ SW eI w0 blk off (X ++ M ++ Y).toArray w' := by
  have mixed := mixedT
  have hcl0 := R.hO.cells
  simp only [Value.cells] at hcl0
  have hst := R.hO.store Try.prog
  have u33 := Try.underlying33
  have HC : Aside _ := hcmp
  have HR := Aside0.mk hR
  have HZ := Aside0.mk hz
  have hl : m + 1 = b ∧ a ≤ m ∧ b ≤ N := by rw [← hN]; simp; omega
  have HA := Aside0.mk ha
  have HRL := Aside0.mk (show a + L.length = m by omega)
  obtain ⟨dk, hdk⟩ : ∃ dk, dk = (X ++ (L ++ y :: []) ++ Y).toArray := ⟨_, rfl⟩
  have hds : dk.size = N := by rw [hdk, ← hN]; simp
  have HALL := Aside0.mk (show ∀ i, i < N → 0 ≤ dk[i]! ∧ dk[i]! < (N : Int) from fun i hi => by rw [hdk]; exact all_idx hP i (by rw [hN]; exact hi))
  have HA0 := Aside0.mk (show dk[m]! = y by rw [hdk, hm, show X ++ (L ++ y :: []) ++ Y = (X ++ L) ++ y :: Y by simp]; exact get_mid _ _ y _ (by simp))
  have HAT := Aside0.mk (show ∀ k, (hk : k < L.length) → dk[a + k]! = L[k] from fun k hk => by
    rw [hdk, show X ++ (L ++ y :: []) ++ Y = X ++ L ++ (y :: Y) by simp]
    exact at_idx_mid _ _ _ _ k (by omega) hk)
  rw [← hdk] at S
  have HDK := Aside0.mk hdk
  have S0 : Aside (SW eI w0 blk off dk w) := S
  have hne : ¬ (m : Int) - (a : Int) = 1 := by omega
  have hneb : ((m : Int) - (a : Int) == 1) = false := by simpa using hne
  have hbm : (b : Int) - (m : Int) = 1 := by omega
  clear S hcmp ha hm hb hN hR hz hP hdk hL2
  go_enter Try.func121, Try.ntmps121
  go_wp2
  go_loopg [14, 15] (m - a) (fun kx s10 s11 wr => ∃ (i j : Nat), s10 = .int .i64 i ∧ s11 = .int .i64 j ∧ a ≤ i ∧ i ≤ j ∧ j ≤ m ∧ j - i ≤ kx ∧ Aside0 (∀ k, (hk : k < L.length) → a + k < i → ¬ kf y < kf L[k]) ∧ Aside0 (∀ k, (hk : k < L.length) → j ≤ a + k → kf y < kf L[k]) ∧ Aside (SW eI w0 blk off dk wr))
  case atStart => exact ⟨a, m, rfl, rfl, by omega, by omega, by omega, by omega, ⟨fun k hk h => by omega⟩, ⟨fun k hk h => by have := HRL.out; omega⟩, S0⟩
  case round =>
    clear S0
    obtain ⟨i, j, rfl, rfl, hmi, hij, hjb, hkx, HI, HJ, S1⟩ := hrel
    by_cases hlt : i < j
    · have hltz : (i : Int) < (j : Int) := by omega
      obtain ⟨h, hh⟩ : ∃ h : Nat, h = (i + j) / 2 := ⟨_, rfl⟩
      have hhz : ((i : Int) + (j : Int)) / 2 = (h : Int) := by omega
      have hhb : a ≤ h ∧ i ≤ h ∧ h < j := by omega
      have HH := Aside0.mk hh
      clear hh
      have hrk : h - a < L.length := by have := HRL.out; omega
      have hat : dk[h]! = L[h - a] := by have := HAT.out (h - a) hrk; rwa [show a + (h - a) = h by omega] at this
      have HK := Aside0.mk hrk
      have HT := Aside0.mk (show cfK kf dk[m]! dk[h]! < 0 ↔ kf y < kf L[h - a] by rw [cfK_lt, hat, HA0.out])
      clear hat
      by_cases hcf : cfK kf dk[m]! dk[h]! < 0
      · have HF := Aside0.mk (HT.out.1 hcf)
        obtain ⟨iN1, hiN1⟩ : ∃ qq, qq = m := ⟨_, rfl⟩
        obtain ⟨jN1, hjN1⟩ : ∃ qq, qq = h := ⟨_, rfl⟩
        have ea1 : ((m : Int)).toNat = iN1 := by omega
        have pa1 : (0 : Int) ≤ (m : Int) := by omega
        have ba1 : (m : Int) < (N : Int) := by omega
        have ec1 : ((h : Int)).toNat = jN1 := by omega
        have pc1 : (0 : Int) ≤ (h : Int) := by omega
        have bc1 : (h : Int) < (N : Int) := by omega
        have ra1 : IntKind.i64.wrap ((m : Int)) = (m : Int) := by rw [IntKind.wrap_i64]; omega
        have rc1 : IntKind.i64.wrap ((h : Int)) = (h : Int) := by rw [IntKind.wrap_i64]; omega
        obtain ⟨x1, hx1⟩ : ∃ x, x = dk[m]! := ⟨_, rfl⟩
        obtain ⟨y1, hy1⟩ : ∃ x, x = dk[h]! := ⟨_, rfl⟩
        have l1a := S1.out.cl R (by rw [hds, hs]) (m) (by omega)
        have l1b := S1.out.cl R (by rw [hds, hs]) (h) (by omega)
        rw [← hx1, ← hiN1] at l1a
        rw [← hy1, ← hjN1] at l1b
        have hc1 := sw_cmpOn S1.out HC.out hds x1 y1 (by rw [hx1]; exact HALL.out (m) (by omega)) (by rw [hy1]; exact HALL.out (h) (by omega))
        have hv1 : cfK kf x1 y1 < 0 := by rw [hx1, hy1]; exact hcf
        have hd1 : decide (cfK kf x1 y1 < 0) = true := decide_eq_true hv1
        clear hx1 hy1 hiN1 hjN1 hcf
        go_wp2_with fail
        go_quiet_grown (first | (go_at_fn g; refine Calls.grown_of (hc1 _ _)))
        have S2 : Aside (SW eI w0 blk off dk (grow (wr.drewN nq) osq)) := S1.out.grown nq osq
        clear l1a l1b hc1 S1
        generalize grow (wr.drewN nq) osq = w2 at S2 ⊢
        clear nq osq
        clear ea1 ec1
        go_wp2
        go_roundg (h - i)
        case measure => omega
        case rel =>
          refine ⟨i, h, rfl, rfl, by omega, by omega, by omega, by omega, HI, ⟨fun k hk hki => ?_⟩, S2⟩
          have := key_at HR.out (show h - a ≤ k by omega) hk
          have := HF.out
          omega
      · have HF := Aside0.mk (show ¬ kf y < kf L[h - a] from fun h => hcf (HT.out.2 h))
        obtain ⟨iN2, hiN2⟩ : ∃ qq, qq = m := ⟨_, rfl⟩
        obtain ⟨jN2, hjN2⟩ : ∃ qq, qq = h := ⟨_, rfl⟩
        have ea2 : ((m : Int)).toNat = iN2 := by omega
        have pa2 : (0 : Int) ≤ (m : Int) := by omega
        have ba2 : (m : Int) < (N : Int) := by omega
        have ec2 : ((h : Int)).toNat = jN2 := by omega
        have pc2 : (0 : Int) ≤ (h : Int) := by omega
        have bc2 : (h : Int) < (N : Int) := by omega
        have ra2 : IntKind.i64.wrap ((m : Int)) = (m : Int) := by rw [IntKind.wrap_i64]; omega
        have rc2 : IntKind.i64.wrap ((h : Int)) = (h : Int) := by rw [IntKind.wrap_i64]; omega
        obtain ⟨x2, hx2⟩ : ∃ x, x = dk[m]! := ⟨_, rfl⟩
        obtain ⟨y2, hy2⟩ : ∃ x, x = dk[h]! := ⟨_, rfl⟩
        have l2a := S1.out.cl R (by rw [hds, hs]) (m) (by omega)
        have l2b := S1.out.cl R (by rw [hds, hs]) (h) (by omega)
        rw [← hx2, ← hiN2] at l2a
        rw [← hy2, ← hjN2] at l2b
        have hc2 := sw_cmpOn S1.out HC.out hds x2 y2 (by rw [hx2]; exact HALL.out (m) (by omega)) (by rw [hy2]; exact HALL.out (h) (by omega))
        have hv2 : ¬ cfK kf x2 y2 < 0 := by rw [hx2, hy2]; exact hcf
        have hd2 : decide (cfK kf x2 y2 < 0) = false := decide_eq_false hv2
        clear hx2 hy2 hiN2 hjN2 hcf
        go_wp2_with fail
        go_quiet_grown (first | (go_at_fn g; refine Calls.grown_of (hc2 _ _)))
        have S2 : Aside (SW eI w0 blk off dk (grow (wr.drewN nq) osq)) := S1.out.grown nq osq
        clear l2a l2b hc2 S1
        generalize grow (wr.drewN nq) osq = w2 at S2 ⊢
        clear nq osq
        clear ea2 ec2
        go_wp2
        go_roundg (j - (h + 1))
        case measure => omega
        case rel =>
          refine ⟨h + 1, j, by go_num, rfl, by omega, by omega, by omega, by omega, ⟨fun k hk hki => ?_⟩, HJ, S2⟩
          have := key_at HR.out (show k ≤ h - a by omega) HK.out
          have := HF.out
          omega
    · have hltz : ¬ (i : Int) < (j : Int) := by omega
      obtain rfl : i = j := by omega
      have S2 : Aside (SW eI w0 blk off (X ++ (L.take L.length ++ y :: L.drop L.length) ++ Y).toArray wr) := by
        have h1 := S1.out
        rw [HDK.out] at h1
        have h2 : SW eI w0 blk off (X ++ (L.take L.length ++ y :: L.drop L.length) ++ Y).toArray wr := by simpa using h1
        exact h2
      clear S1
      go_wp2
      go_loopg [17] (m - i) (fun kx s13 wr2 => ∃ (k q : Nat), s13 = .int .i64 k ∧ k = a + q ∧ q ≤ L.length ∧ i ≤ k ∧ k - i ≤ kx ∧ Aside (SW eI w0 blk off (X ++ (L.take q ++ y :: L.drop q) ++ Y).toArray wr2))
      case atStart => exact ⟨m, L.length, rfl, by have := HRL.out; omega, by omega, by omega, by omega, S2⟩
      case round =>
        clear S2
        obtain ⟨k, q, rfl, hkq, hqL, hki, hkx2, S3⟩ := hrel
        have HQ := Aside0.mk hkq
        clear hkq
        by_cases hlt2 : i < k
        · have hltz2 : (i : Int) < (k : Int) := by omega
          obtain ⟨q', hq'⟩ : ∃ q', q = q' + 1 := ⟨q - 1, by have := HQ.out; omega⟩
          subst hq'
          obtain ⟨dq, hdq⟩ : ∃ dq, dq = (X ++ (L.take (q' + 1) ++ y :: L.drop (q' + 1)) ++ Y).toArray := ⟨_, rfl⟩
          have hdsq : dq.size = N := by
            have h1 := HDK.out
            rw [← hds, h1, hdq]
            simp
            omega
          have hkN : k < N ∧ 0 < k := by have := HQ.out; have := HRL.out; omega
          have hsw : swp dq k (k - 1) = (X ++ (L.take q' ++ y :: L.drop q') ++ Y).toArray := by rw [hdq]; exact swp_bwd X Y L y q' k (by omega) (by have := HQ.out; have := HA.out; omega)
          rw [← hdq] at S3
          clear hdq
          obtain ⟨iN3, hiN3⟩ : ∃ qq, qq = k := ⟨_, rfl⟩
          obtain ⟨jN3, hjN3⟩ : ∃ qq, qq = k - 1 := ⟨_, rfl⟩
          have ea3 : ((k : Int)).toNat = iN3 := by omega
          have pa3 : (0 : Int) ≤ (k : Int) := by omega
          have ba3 : (k : Int) < (N : Int) := by omega
          have ec3 : ((k : Int) - 1).toNat = jN3 := by omega
          have pc3 : (0 : Int) ≤ (k : Int) - 1 := by omega
          have bc3 : (k : Int) - 1 < (N : Int) := by omega
          have ra3 : IntKind.i64.wrap ((k : Int)) = (k : Int) := by rw [IntKind.wrap_i64]; omega
          have rc3 : IntKind.i64.wrap ((k : Int) - 1) = (k : Int) - 1 := by rw [IntKind.wrap_i64]; omega
          obtain ⟨x3, hx3⟩ : ∃ x, x = dq[k]! := ⟨_, rfl⟩
          obtain ⟨y3, hy3⟩ : ∃ x, x = dq[k - 1]! := ⟨_, rfl⟩
          have S4 : Aside (SW eI w0 blk off (swp dq (k) (k - 1)) ((wr.setCell ⟨blk, off + iN3, none⟩ (eI y3)).setCell ⟨blk, off + jN3, none⟩ (eI x3)).drew) := by rw [hiN3, hjN3, hx3, hy3]; exact S3.out.swapped R (k) (k - 1) (by omega) (by omega)
          have c3a := S3.out.c1 R (by rw [hdsq, hs]) (k) (by omega)
          have c3b := S3.out.c1 R (by rw [hdsq, hs]) (k - 1) (by omega)
          have f3a := S3.out.f1 R (by rw [hdsq, hs]) (k) (by omega)
          have f3b := S3.out.f1 R (by rw [hdsq, hs]) (k - 1) (by omega)
          obtain ⟨u3, c3c⟩ := S3.out.c2 R (by rw [hdsq, hs]) (k) (k - 1) (by omega) (by omega) (eI y3)
          rw [← hjN3, ← hiN3] at c3c
          rw [← hx3, ← hiN3] at c3a
          rw [← hy3, ← hjN3] at c3b
          rw [← hiN3] at f3a
          rw [← hjN3] at f3b
          rw [hsw] at S4
          clear S3 hx3 hy3 hiN3 hjN3 hsw
          go_wp2_with fail
          go_big_region
          clear c3a c3b c3c f3a f3b
          generalize ((wr.setCell ⟨blk, off + iN3, none⟩ (eI y3)).setCell ⟨blk, off + jN3, none⟩ (eI x3)).drew = w4 at S4 ⊢
          clear ea3 ec3
          go_wp2
          have hk1 : (k : Int) - 1 = ((k - 1 : Nat) : Int) := by omega
          go_roundg (k - 1 - i)
          case measure => omega
          case rel => exact ⟨k - 1, q', by rw [hk1], by have := HQ.out; omega, by omega, by omega, by omega, S4⟩
        · have hltz2 : ¬ (i : Int) < (k : Int) := by omega
          go_wp2
          refine bodyPost_ret (results_none rfl _ _ _) rfl ?_
          have hq := HQ.out
          have hrl := HRL.out
          obtain ⟨p1, p2⟩ := put_mid (kf := kf) (z := y) (l := L) q HR.out (fun x hx => by
            obtain ⟨e, he, heq, rfl⟩ := tk_mem hx
            have h1 := HI.out e he (by omega)
            have h2 := HZ.out L[e] (List.getElem_mem he)
            unfold Ord
            omega) (fun x hx => by
            obtain ⟨e, he, heq, rfl⟩ := dr_mem hx
            exact .inl (HJ.out e he (by omega)))
          exact ⟨rfl, _, p1, p2, by have h3 := S3.out; simpa [List.append_assoc] using h3⟩
theorem all2 {P : Int → Prop} {A B : List Int} (h1 : ∀ x ∈ A, P x) (h2 : ∀ x ∈ B, P x) : ∀ x ∈ A ++ B, P x := fun x hx => (List.mem_append.1 hx).elim (h1 x) (h2 x)
theorem all3 {P : Int → Prop} {A B C : List Int} (h1 : ∀ x ∈ A, P x) (h2 : ∀ x ∈ B, P x) (h3 : ∀ x ∈ C, P x) : ∀ x ∈ A ++ B ++ C, P x := all2 (all2 h1 h2) h3
theorem all4 {P : Int → Prop} {A B C D : List Int} (h1 : ∀ x ∈ A, P x) (h2 : ∀ x ∈ B, P x) (h3 : ∀ x ∈ C, P x) (h4 : ∀ x ∈ D, P x) : ∀ x ∈ A ++ B ++ C ++ D, P x := all2 (all3 h1 h2 h3) h4
end Go.Proofs.Ytningpmoojnomaa.Pr
end
