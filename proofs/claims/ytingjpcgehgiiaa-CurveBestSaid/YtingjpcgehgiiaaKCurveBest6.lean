/- What the proof of the law needs, trimmed and merged by wip/pack.py out of the texts YtingjpcgehgiiaaWalkCurveBest, YtingjpcgehgiiaaRowCurveBest. No condition. -/
import Derived.Test.YtingjpcgehgiiaaRows
import Derived.WalkKit
import Derived.ProofKit
import Derived.OpenShut
import Derived.ShutString
import Derived.ChangeOld
import Derived.Below
import Derived.SizedLaws
import Derived.Test.YtingjpcgehgiiaaKCurveBest0
import Derived.Test.YtingjpcgehgiiaaKCurveBest1
import Derived.Test.YtingjpcgehgiiaaKCurveBest2
import Derived.Test.YtingjpcgehgiiaaKCurveBest3
import Derived.Test.YtingjpcgehgiiaaKCurveBest4
import Derived.Test.YtingjpcgehgiiaaKCurveBest5
section
namespace Go.Proofs.Ytingjpcgehgiiaa.Pr
open Go.RowKit Go.Proofs.YtingjpcgehgiiaaW.PrintWords Go.Proofs.YtingjpcgehgiiaaW.PrintLast Go.Proofs.YtingjpcgehgiiaaW.PrintMore
set_option linter.unusedVariables false
set_option linter.unusedSimpArgs false
theorem rdT_nat (l : List S24) (i : Nat) : rd_T24 l (i : Int) = l.getD i z24 := by unfold rd_T24; rw [Int.toNat_natCast]
theorem allV_get {l : List S24} (h : AllV l) {i : Nat} (hi : i < l.length) : Vc (l.getD i z24) := by
  rw [List.getD_eq_getElem?_getD, List.getElem?_eq_getElem hi]
  exact h _ (List.getElem_mem hi)
def valN (l : List S24) (xs : List Int) (i : Nat) : Int := valC (l.getD i z24) (rd xs (i : Int))
def numN (xs : List Int) (i : Nat) : Int := rd xs (i : Int)
theorem sum_bound {l : List S24} (h : AllV l) (h8 : l.length ≤ 8) {xs : List Int} : ∀ i, i ≤ l.length → (∀ j, j < i → inC (l.getD j z24) (numN xs j)) → (-8796629893120 ≤ sm (valN l xs) i ∧ sm (valN l xs) i ≤ 8796629893120) ∧ -16777216 ≤ sm (numN xs) i ∧ sm (numN xs) i ≤ 16777216 := by
  intro i hi hin
  have b1 := sm_bound (f := valN l xs) (B := 1099578736640) (n := i) fun j hj => val_bound (allV_get h (by omega)) _
  have b2 := sm_bound (f := numN xs) (B := 2097152) (n := i) fun j hj => in_bound (allV_get h (by omega)) (hin j hj)
  omega
theorem succ_w {i : Nat} (h : i ≤ 9223372036854775806) : wrap64 ((i : Int) + 1) = ((i + 1 : Nat) : Int) := by unfold wrap64; omega
theorem spent_step (l : List S24) (xs : List Int) (s u : Int) {i : Nat} (h8 : l.length ≤ 8) (hi : i < l.length) (hx : i < xs.length) (v : Vc (l.getD i z24)) (hin : inC (l.getD i z24) (rd xs (i : Int))) (k : Nat) :
    kimberlitelaw03_spent.l0 (k + 1) l xs s u (i : Int) = kimberlitelaw03_spent.l0 k l xs (wrap64 (s + valC (l.getD i z24) (rd xs (i : Int)))) (wrap64 (u - rd xs (i : Int))) ((i + 1 : Nat) : Int) := by
  simp only [kimberlitelaw03_spent.l0]
  rw [if_pos (by omega), if_pos (by omega), if_pos (by omega), rdT_nat, at_law, Option.bind_some, atR_in v hin, if_pos rfl, succ_w (by omega)]
theorem spent_stop (l : List S24) (xs : List Int) (s u : Int) {i : Nat} (hi : i < l.length) (hx : i < xs.length) (hout : ¬inC (l.getD i z24) (rd xs (i : Int))) (k : Nat) :
    kimberlitelaw03_spent.l0 (k + 1) l xs s u (i : Int) = some (0, false) := by
  simp only [kimberlitelaw03_spent.l0]
  rw [if_pos (by omega), if_pos (by omega), if_pos (by omega), rdT_nat, at_law, Option.bind_some, atR_out hout, if_neg (by simp)]
theorem spent_in_loop {l : List S24} (h : AllV l) (h8 : l.length ≤ 8) {xs : List Int} (hl : xs.length = l.length) (hin : ∀ j, j < l.length → inC (l.getD j z24) (numN xs j)) {t : Int} (ht : -1099511627776 ≤ t ∧ t ≤ 1099511627776) :
    ∀ n i : Nat, i + n = l.length → Ev (fun k => kimberlitelaw03_spent.l0 k l xs (sm (valN l xs) i) (t - sm (numN xs) i) (i : Int)) (sm (valN l xs) l.length, decide (sm (numN xs) l.length = t))
  | 0, i, hi => by
    have e : i = l.length := by omega
    subst e
    have b := sum_bound h h8 (xs := xs) l.length (Nat.le_refl _) hin
    refine Ev.step (f := fun _ => some (sm (valN l xs) l.length, (t - sm (numN xs) l.length == 0))) (fun k => ?_) ?_
    · simp only [kimberlitelaw03_spent.l0]
      rw [if_neg (by omega)]
    · have e2 : (t - sm (numN xs) l.length == 0) = decide (sm (numN xs) l.length = t) := by
        by_cases hh : sm (numN xs) l.length = t
        · rw [decide_eq_true hh, beq_iff_eq]; omega
        · rw [decide_eq_false hh, beq_eq_false_iff_ne]; omega
      rw [e2]
      exact Ev.now _
  | n + 1, i, hi => by
    have ih := spent_in_loop h h8 hl hin ht n (i + 1) (by omega)
    have hi' := hin i (by omega)
    have v := allV_get h (i := i) (by omega)
    have b := sum_bound h h8 (xs := xs) i (by omega) fun j hj => hin j (by omega)
    have b1 := val_bound v (numN xs i)
    have b2 := in_bound v hi'
    have e1 : wrap64 (sm (valN l xs) i + valC (l.getD i z24) (numN xs i)) = sm (valN l xs) (i + 1) := by
      have : sm (valN l xs) (i + 1) = sm (valN l xs) i + valC (l.getD i z24) (numN xs i) := rfl
      rw [this]; unfold wrap64; omega
    have e1' : wrap64 (sm (valN l xs) i + valC (l.getD i z24) (rd xs (i : Int))) = sm (valN l xs) (i + 1) := e1
    have e2 : wrap64 (t - sm (numN xs) i - rd xs (i : Int)) = t - sm (numN xs) (i + 1) := by
      have : sm (numN xs) (i + 1) = sm (numN xs) i + numN xs i := rfl
      rw [this]; unfold wrap64; unfold numN at *; omega
    refine Ev.step (fun k => ?_) ih
    rw [spent_step l xs _ _ h8 (by clear ih e1 e1' e2 b; omega) (by clear ih e1 e1' e2 b; omega) v hi', e1', e2]
theorem spent_in {l : List S24} (h : AllV l) (h8 : l.length ≤ 8) {xs : List Int} (hl : xs.length = l.length) (hin : ∀ j, j < l.length → inC (l.getD j z24) (numN xs j)) {t : Int} (ht : -1099511627776 ≤ t ∧ t ≤ 1099511627776) :
    Ev (fun k => kimberlitelaw03_spent.f k l xs t) (sm (valN l xs) l.length, decide (sm (numN xs) l.length = t)) := by
  refine Ev.congr (fun k => ?_) (spent_in_loop h h8 hl hin ht l.length 0 (by omega))
  unfold kimberlitelaw03_spent.f
  rw [if_pos (by omega)]
  simp [sm]
theorem spent_out_loop {l : List S24} (h : AllV l) (h8 : l.length ≤ 8) {xs : List Int} (hl : xs.length = l.length) {m : Nat} (hm : m < l.length) (hout : ¬inC (l.getD m z24) (numN xs m)) :
    ∀ n i : Nat, i + n = m → ∀ s u, Ev (fun k => kimberlitelaw03_spent.l0 k l xs s u (i : Int)) (0, false)
  | 0, i, hi, s, u => by
    have e : i = m := by omega
    subst e
    exact Ev.step (f := fun _ => some (0, false)) (fun k => spent_stop l xs s u (by omega) (by omega) hout k) (Ev.now _)
  | n + 1, i, hi, s, u => by
    by_cases hin : inC (l.getD i z24) (numN xs i)
    · have ih := spent_out_loop h h8 hl hm hout n (i + 1) (by omega) (wrap64 (s + valC (l.getD i z24) (rd xs (i : Int)))) (wrap64 (u - rd xs (i : Int)))
      exact Ev.step (fun k => spent_step l xs s u h8 (by omega) (by omega) (allV_get h (by omega)) hin k) ih
    · exact Ev.step (f := fun _ => some (0, false)) (fun k => spent_stop l xs s u (by omega) (by omega) hin k) (Ev.now _)
theorem spent_out {l : List S24} (h : AllV l) (h8 : l.length ≤ 8) {xs : List Int} (t : Int) (hno : ¬(xs.length = l.length ∧ ∀ j, j < l.length → inC (l.getD j z24) (numN xs j))) : Ev (fun k => kimberlitelaw03_spent.f k l xs t) (0, false) := by
  unfold kimberlitelaw03_spent.f
  by_cases hl : xs.length = l.length
  · obtain ⟨m, hm, ho⟩ : ∃ m, m < l.length ∧ ¬inC (l.getD m z24) (numN xs m) := by
      apply Classical.byContradiction
      intro hh
      exact hno ⟨hl, fun j hj => Classical.byContradiction fun hc => hh ⟨j, hj, hc⟩⟩
    exact Ev.congr (fun k => if_pos (by omega)) (spent_out_loop h h8 hl hm ho m 0 (by omega) 0 t)
  · exact Ev.congr (f := fun _ => some (0, false)) (fun k => if_neg (by omega)) (Ev.now _)
/-- The end of the law: the other division costs more, or comes later. -/
theorem best_end {l : List S24} {xs other : List Int} {v : Int} (hx : xs.length = l.length) (ho : other.length = l.length) (hm : l.length ≤ 8) (hlex : ∀ i, i < l.length → (∀ j, j < i → rd xs (j : Int) = rd other (j : Int)) → rd xs (i : Int) ≠ rd other (i : Int) → rd xs (i : Int) < rd other (i : Int)) :
    ∀ n i : Nat, i + n = l.length → (∀ j, j < i → rd xs (j : Int) = rd other (j : Int)) → Ev (fun k => kimberlitelaw03_CurveBest.l1 k l other xs v v true (i : Int)) true
  | 0, i, hi, heq => by
    refine Ev.step (f := fun k => kimberlitelaw03_CurveBest.j4 k l other xs v v true (i : Int) false) (fun k => ?_) (Ev.step (f := fun _ => some true) (fun k => ?_) (Ev.now _))
    · simp only [kimberlitelaw03_CurveBest.l1]
      rw [if_pos trivial, if_pos trivial, decide_eq_false (by omega)]
    · simp only [kimberlitelaw03_CurveBest.j4]
      rw [if_neg (by simp)]
      rfl
  | n + 1, i, hi, heq => by
    have e3 : wrap64 ((i : Int) + 1) = ((i + 1 : Nat) : Int) := by unfold wrap64; omega
    have st : ∀ k, kimberlitelaw03_CurveBest.l1 (k + 1) l other xs v v true (i : Int) = kimberlitelaw03_CurveBest.j4 k l other xs v v true (i : Int) true := fun k => by
      simp only [kimberlitelaw03_CurveBest.l1]
      rw [if_pos trivial, if_pos trivial, decide_eq_true (by omega)]
    by_cases hc : rd xs (i : Int) = rd other (i : Int)
    · refine Ev.step st (Ev.step (fun k => ?_) (best_end (v := v) hx ho hm hlex n (i + 1) (by omega) fun j hj => ?_))
      · simp only [kimberlitelaw03_CurveBest.j4]
        rw [if_pos trivial, if_pos (by omega), if_pos (by omega), if_pos (by omega), if_pos hc, e3]
      · by_cases e : j = i
        · subst e; exact hc
        · exact heq j (by omega)
    · refine Ev.step st (Ev.step (f := fun _ => some true) (fun k => ?_) (Ev.now _))
      simp only [kimberlitelaw03_CurveBest.j4]
      rw [if_pos trivial, if_pos (by omega), if_pos (by omega), if_pos (by omega), if_neg hc, if_pos (hlex i (by omega) heq hc)]
      rfl
theorem best_quiet (l : List S24) (xs other : List Int) (v w : Int) (b : Bool) (hb : ¬(b = true ∧ w = v)) : Ev (fun k => kimberlitelaw03_CurveBest.l1 k l other xs v w b 0) true := by
  refine Ev.step (f := fun k => kimberlitelaw03_CurveBest.j4 k l other xs v w b 0 false) (fun k => ?_) (Ev.step (f := fun _ => some true) (fun k => ?_) (Ev.now _))
  · simp only [kimberlitelaw03_CurveBest.l1]
    by_cases h1 : b = true
    · rw [if_pos h1, if_neg (fun h => hb ⟨h1, h⟩)]
    · rw [if_neg h1]
  · simp only [kimberlitelaw03_CurveBest.j4]
    rw [if_neg (by simp)]
    rfl
theorem best_step (l : List S24) (xs other : List Int) (t v p u : Int) {i : Nat} (h8 : l.length ≤ 8) (hi : i < l.length) (hx : i < xs.length) (vi : Vc (l.getD i z24)) (hin : inC (l.getD i z24) (rd xs (i : Int))) {g : Int} (hg : wrap64 (wrap64 (p * rd xs (i : Int)) - valC (l.getD i z24) (rd xs (i : Int))) = g) (k : Nat) :
    kimberlitelaw03_CurveBest.l0 (k + 1) l t other xs v p u (i : Int) = (kimberlitelaw03_greatest.f k (l.getD i z24).f0 (l.getD i z24).f1 (l.getD i z24).f2 p).bind fun t695 => (kimberlitelaw03_greatest.f k (l.getD i z24).f0 (l.getD i z24).f1 (l.getD i z24).f2 p).bind fun t702 => if g = t702 then kimberlitelaw03_CurveBest.l0 k l t other xs v p (wrap64 (u - t695)) ((i + 1 : Nat) : Int) else some false := by
  simp only [kimberlitelaw03_CurveBest.l0]
  simp only [if_pos (show (i : Int) < (xs.length : Int) by omega)]
  rw [if_pos (by omega), if_pos (by omega), rdT_nat, at_law, atR_in vi hin]
  simp only [Option.bind_some]
  rw [hg, succ_w (by omega)]
/-- What the law asks of the price, curve by curve. -/
theorem best_loop {l : List S24} (h : AllV l) (h8 : l.length ≤ 8) {xs other : List Int} {t v p : Int} (hx : xs.length = l.length) (hp : -1048576 ≤ p ∧ p ≤ 1048576) (ht : -16777216 ≤ t ∧ t ≤ 16777216) (hin : ∀ j, j < l.length → inC (l.getD j z24) (numN xs j))
    (htight : ∀ i, i < l.length → p * numN xs i - valN l xs i = gC (l.getD i z24) p) (hlow : p * t - sm (fun i => gC (l.getD i z24) p) l.length = v)
    (hend : Ev (fun k => (kimberlitelaw03_spent.f k l other t).bind fun bt703 => (if v = v then (if bt703.2 = true then (kimberlitelaw03_CurveBest.j2 k l other xs v bt703.1 bt703.2 (decide (bt703.1 < v))) else (kimberlitelaw03_CurveBest.j2 k l other xs v bt703.1 bt703.2 false)) else (kimberlitelaw03_CurveBest.j2 k l other xs v bt703.1 bt703.2 true))) true) :
    ∀ n i : Nat, i + n = l.length → Ev (fun k => kimberlitelaw03_CurveBest.l0 k l t other xs v p (p * t - sm (fun i => gC (l.getD i z24) p) i) (i : Int)) true
  | 0, i, hi => by
    have e : i = l.length := by omega
    subst e
    rw [hlow]
    refine Ev.step (fun k => ?_) hend
    simp only [kimberlitelaw03_CurveBest.l0]
    rw [if_neg (by omega)]
  | n + 1, i, hi => by
    have ih := best_loop h h8 hx hp ht hin htight hlow hend n (i + 1) (by omega)
    have vi := allV_get h (i := i) (by omega)
    have hi' := hin i (by omega)
    have gb : ∀ j, j < l.length → -(2252899392421889) ≤ gC (l.getD j z24) p ∧ gC (l.getD j z24) p ≤ 2252899392421889 := fun j hj => gC_bound (allV_get h hj) (by omega)
    have b1 := sm_bound (f := fun i => gC (l.getD i z24) p) (B := 2252899392421889) (n := i) fun j hj => gb j (by omega)
    have b2 := gb i (by omega)
    have b3 := mul_bound (P := 1048576) (X := 16777216) hp ht
    have e1 : wrap64 (p * t - sm (fun i => gC (l.getD i z24) p) i - gC (l.getD i z24) p) = p * t - sm (fun i => gC (l.getD i z24) p) (i + 1) := by
      have : sm (fun i => gC (l.getD i z24) p) (i + 1) = sm (fun i => gC (l.getD i z24) p) i + gC (l.getD i z24) p := rfl
      rw [this]; unfold wrap64; omega
    have g := greatest_ev vi (p := p) (by clear b1 e1 ih hlow htight; omega)
    have tw := term_w vi hi' (p := p) (by clear b1 e1 ih hlow htight; omega)
    have tt := htight i (by omega)
    refine Ev.step (best_step l xs other t v p _ h8 (by clear b1 e1 ih hlow htight; omega) (by clear b1 e1 ih hlow htight; omega) vi hi' (tw.trans tt)) ?_
    refine Ev.bind g (Ev.bind g (Ev.congr (fun k => if_pos rfl) ?_))
    rw [e1]
    exact ih
theorem CurveBest_pure (l : List S24) (total : Int) (other : List Int) : ∃ k, kimberlitelaw03_CurveBest.f k l total other = some true := by
  refine Ev.rounds ?_
  unfold kimberlitelaw03_CurveBest.f curve_Split.f
  have bad : ∀ n : Int, n ≠ 0 → splitR l total = ([], 0, 0, n) → Ev (fun k => (some (splitR l total)).bind fun bt685 => (if bt685.2.2.2 = 0 then ((kimberlitelaw03_spent.f k l bt685.1 total).bind fun bt692 => (if bt692.2 = true then (if bt692.1 = bt685.2.1 then (if bt685.2.2.1 < (-1048576) then (kimberlitelaw03_CurveBest.j0 k l total other bt685.1 bt685.2.1 bt685.2.2.1 true) else (kimberlitelaw03_CurveBest.j0 k l total other bt685.1 bt685.2.1 bt685.2.2.1 (decide (bt685.2.2.1 > 1048576)))) else (kimberlitelaw03_CurveBest.j0 k l total other bt685.1 bt685.2.1 bt685.2.2.1 true)) else (kimberlitelaw03_CurveBest.j0 k l total other bt685.1 bt685.2.1 bt685.2.2.1 true))) else (if (bt685.1.length : Int) = 0 then (if bt685.2.1 = 0 then (if bt685.2.2.1 = 0 then ((kimberlitelaw03_alive.f).bind fun t691 => (some t691)) else (some false)) else (some false)) else (some false)))) true := by
    intro n hn e
    rw [e]
    refine Ev.congr (f := fun _ => some true) (fun k => ?_) (Ev.now _)
    simp only [Option.bind_some]
    rw [if_neg hn, if_pos (by simp), if_pos trivial, if_pos trivial]
    rfl
  by_cases h8 : 8 < l.length
  · exact bad 3 (by decide) (by unfold splitR; rw [if_pos h8])
  by_cases h0 : l.length = 0
  · exact bad 2 (by decide) (by unfold splitR; rw [if_neg h8, if_pos h0])
  by_cases hv : l.any (fun x => !validC x.f0 x.f1 x.f2) = true
  · exact bad 2 (by decide) (by unfold splitR; rw [if_neg h8, if_neg h0, if_pos hv])
  have es : splitR l total = splitOk l total := by unfold splitR; rw [if_neg h8, if_neg h0, if_neg hv]
  by_cases hlo : total < loS l
  · exact bad 10 (by decide) (by rw [es]; unfold splitOk; rw [if_pos hlo])
  by_cases hhi : hiS l < total
  · exact bad 10 (by decide) (by rw [es]; unfold splitOk; rw [if_neg hlo, if_pos hhi])
  have hV : AllV l := fun c hc => by
    apply Classical.byContradiction
    intro hh
    apply hv
    rw [List.any_eq_true]
    exact ⟨c, hc, by simpa using hh⟩
  have D := split_div hV (by omega) (show total ≤ hiS l by omega)
  have eo : splitR l total = ((fillS (total - loS l).toNat (mkSh l)).map (fun p => p.2), sumTo (fillS (total - loS l).toNat (mkSh l)) (fillS (total - loS l).toNat (mkSh l)).length, priceTo (fillS (total - loS l).toNat (mkSh l)) (fillS (total - loS l).toNat (mkSh l)).length, 0) := by
    rw [es]; unfold splitOk; rw [if_neg hlo, if_neg hhi]
  rw [eo]
  generalize fillS (total - loS l).toNat (mkSh l) = sh at D eo ⊢
  clear bad es eo
  have hl := D.len
  have sb := sums_bound l hV
  obtain ⟨p1, p2, _⟩ := D.price
  have hcost := D.cost (by omega) sh.length (Nat.le_refl _)
  have hx : ∀ i, i < l.length → rd (sh.map fun p => p.2) (i : Int) = (sh.getD i zS).2 := fun i hi => by
    rw [rd_nat _ _ (by rw [List.length_map]; omega), List.getElem_map, List.getD_eq_getElem?_getD, List.getElem?_eq_getElem (by omega)]
    rfl
  have hxl : (sh.map fun p => p.2).length = l.length := by rw [List.length_map]; exact hl
  have hvn : sm (valN l (sh.map fun p => p.2)) l.length = sumTo sh sh.length := by
    rw [hcost, hl]
    refine sm_congr fun i hi => ?_
    unfold valN
    rw [hx i hi, D.get i hi]
  have hin : ∀ j, j < l.length → inC (l.getD j z24) (numN (sh.map fun p => p.2) j) := fun j hj => by
    unfold numN
    rw [hx j hj, ← D.get j hj]
    exact good_in (D.good _ (getD_mem sh j (by omega)))
  have hsum : sm (numN (sh.map fun p => p.2)) l.length = total := by
    have := D.sum
    rw [sumX_sm, hl] at this
    rw [← this]
    refine sm_congr fun i hi => ?_
    unfold numN
    rw [hx i hi]
  have htight : ∀ i, i < l.length → priceTo sh sh.length * numN (sh.map fun p => p.2) i - valN l (sh.map fun p => p.2) i = gC (l.getD i z24) (priceTo sh sh.length) := fun i hi => by
    unfold numN valN
    rw [hx i hi, ← D.get i hi]
    exact D.tight i (by omega)
  have hlow : priceTo sh sh.length * total - sm (fun i => gC (l.getD i z24) (priceTo sh sh.length)) l.length = sumTo sh sh.length := by
    have := sm_congr htight
    rw [sm_sub, sm_mul, hsum, hvn] at this
    omega
  have hs := spent_in hV (by omega) hxl hin (t := total) (by omega)
  rw [hvn, hsum, decide_eq_true rfl] at hs
  have hbest := fun (y : Nat → Int) a b => D.best (y := y) a b
  have hcs : sm (fun i => valC (sh.getD i zS).1 (sh.getD i zS).2) sh.length = sumTo sh sh.length := hcost.symm
  rw [hcs] at hbest
  refine Ev.congr (fun k => Option.bind_some _ _) ?_
  refine Ev.congr (fun k => if_pos rfl) (Ev.bind hs (Ev.congr (fun k => if_pos rfl) (Ev.congr (fun k => if_pos rfl) (Ev.congr (fun k => if_neg (by simp only; omega)) ?_))))
  simp only
  rw [decide_eq_false (by omega)]
  have ew : wrap64 (priceTo sh sh.length * total) = priceTo sh sh.length * total - sm (fun i => gC (l.getD i z24) (priceTo sh sh.length)) 0 := by
    have b3 := mul_bound (p := priceTo sh sh.length) (x := total) (P := 1048576) (X := 16777216) (by omega) (by omega)
    simp only [sm]
    unfold wrap64
    omega
  have hb := fun hend => best_loop (other := other) hV (by omega) hxl ⟨p1, p2⟩ (by omega) hin htight hlow hend l.length 0 (by omega)
  refine Ev.step (f := fun k => kimberlitelaw03_CurveBest.l0 k l total other (sh.map fun p => p.2) (sumTo sh sh.length) (priceTo sh sh.length) (priceTo sh sh.length * total - sm (fun i => gC (l.getD i z24) (priceTo sh sh.length)) 0) ((0 : Nat) : Int)) (fun k => ?_) (hb ?_)
  · simp only [kimberlitelaw03_CurveBest.j0]
    rw [if_neg (by simp), ew]
    rfl
  by_cases ho : other.length = l.length ∧ ∀ j, j < l.length → inC (l.getD j z24) (numN other j)
  · refine Ev.bind (spent_in hV (by omega) ho.1 ho.2 (t := total) (by omega)) (Ev.congr (fun k => if_pos rfl) ?_)
    simp only
    by_cases ht : sm (numN other) l.length = total
    · rw [decide_eq_true ht]
      obtain ⟨q1, q2⟩ := hbest (numN other) ho.2 ht
      have q1' : sumTo sh sh.length ≤ sm (valN l other) l.length := q1
      refine Ev.congr (fun k => if_pos rfl) ?_
      rw [decide_eq_false (by omega)]
      refine Ev.step (fun k => by simp only [kimberlitelaw03_CurveBest.j2]; rw [if_neg (by simp)]) ?_
      by_cases he : sm (valN l other) l.length = sumTo sh sh.length
      · rw [he]
        refine best_end hxl ho.1 (by omega) (fun i hi hb hne => ?_) l.length 0 (by omega) (fun j hj => by omega)
        have := q2 he i hi (fun j hj => by have := hb j hj; rw [hx j (by omega)] at this; exact this) (by rw [hx i hi] at hne; exact hne)
        rw [hx i hi]
        exact this
      · exact best_quiet l _ other _ _ true (fun h => he h.2)
    · rw [decide_eq_false ht]
      refine Ev.congr (fun k => if_neg (by simp)) ?_
      refine Ev.step (fun k => by simp only [kimberlitelaw03_CurveBest.j2]; rw [if_neg (by simp)]) ?_
      exact best_quiet l _ other _ _ false (fun h => by simp at h)
  · refine Ev.bind (spent_out hV (by omega) total ho) (Ev.congr (fun k => if_pos rfl) ?_)
    refine Ev.congr (fun k => if_neg (by simp)) ?_
    refine Ev.step (fun k => by simp only [kimberlitelaw03_CurveBest.j2]; rw [if_neg (by simp)]) ?_
    exact best_quiet l _ other _ _ false (fun h => by simp at h)
theorem CurveBest_walk {W : World} (a0 : Option Addr) (cap0 : Nat) (l0 : List S24) (c0 : l0.length ≤ cap0) (hr0 : Kd.C k24 W a0 l0.length l0) (w0 : ∀ s ∈ l0, okC s) (a1 : Int) (b1 : (Lit.int .i64 a1).wf = true) (a2 : Option Addr) (cap2 : Nat) (l2 : List Int) (c2 : l2.length ≤ cap2) (hr2 : Kd.C (Kd.int .i64) W a2 l2.length l2) (w2 : ∀ s ∈ l2, (Lit.int .i64 s).wf = true) :
    Calls Try.prog 4 #[.slice a0 l0.length cap0, .int .i64 a1, .slice a2 l2.length cap2] W fun e w' => e = .returned (.bool true) ∧ Below W.heap.size W w' := by
  obtain ⟨k, h⟩ := CurveBest_pure l0 a1 l2
  exact kimberlitelaw03_CurveBest.calls k _ _ l0 a1 _ _ l2 true W hr0 c0 hr2 c2 h
end Go.Proofs.Ytingjpcgehgiiaa.Pr
end
section
namespace Go.Proofs.Ytingjpcgehgiiaa.curveBest
open Go.ChangeShapes Go.WideShapes Go.ChangeAt Go.RowKit Go.Proofs.Ytingjpcgehgiiaa.Pr
set_option linter.unusedVariables false
theorem own : ownKnob Try.prog.godebug = none := by kernel_rfl
theorem laidOut : laidOutB Try.prog = true := by kernel_rfl
set_option maxRecDepth 100000 in
theorem lifted (os : Os) (started : os.Started) (H : Type) (enc : TypeId × Value → H) :
    ReturnsInHanded {} Try.checked os 4 .any (Rows.curveBestSpec.pre6 enc Try.prog Try.f4 Rows.curveBestRow.domain false) (Rows.curveBestSpec.post enc Try.prog Try.f4 false true false false) := by
  refine returnsInHanded_of_change (C := Try.checked) own started (by kernel_rfl) Try.func4
    (ChangeSpec.witness6 (enc := enc) (C := Try.checked) false ⟨#[], #[.slice none 0 0, .int .i64 0, .slice none 0 0], []⟩ 8 (by kernel_rfl) (by kernel_rfl) (by kernel_rfl) (by kernel_rfl)) ?_
  intro W base args ds gs before hval0 hW hcnd _
  have hval : ∀ (j : Nat) t v, Try.f4.params[j]? = some t → args[j]? = some v → Value.okWide Try.prog W .any base t v := hval0
  have hW' := hW
  obtain ⟨p, q, hA0, hV, rfl, hfz, hnd⟩ := hW
  have hA : DataW.TrodAll enc Try.prog W 0 (fun _ => true) true Try.f4.params.toList args.toList ds p := hA0
  rw [Try.params4] at hA hval
  obtain ⟨v0, vs0, d0, ds0, p0, q0, hargs, rfl, rfl, h0, r0⟩ := trodAll_cons hA
  obtain ⟨v1, vs1, d1, ds1, p1, q1, rfl, rfl, rfl, h1, r1⟩ := trodAll_cons r0
  obtain ⟨v2, vs2, d2, ds2, p2, q2, rfl, rfl, rfl, h2, r2⟩ := trodAll_cons r1
  obtain ⟨rfl, rfl, rfl⟩ := trodAll_nil r2
  obtain rfl : args = #[v0, v1, v2] := by cases args; simp_all
  obtain ⟨rfl, rfl⟩ := trodVars_none hV
  have k0 := h0
  have lt0 : ∀ x ∈ p0, x.block < W.heap.size := by obtain ⟨m, hm⟩ := k0; exact DataW.trod_lt m _ _ _ hm
  obtain ⟨a0, len0, cap0, rfl⟩ := okWide_slice Try.underlying34 (hval 0 34 v0 rfl rfl)
  obtain ⟨l0, rfl, c0, hr0, w0⟩ := open_curves h0
  obtain ⟨a1, rfl, rfl, rfl, w1⟩ := open_int Try.underlying3 (hval 1 3 v1 rfl rfl) h1
  have k2 := h2
  have lt2 : ∀ x ∈ p2, x.block < W.heap.size := by obtain ⟨m, hm⟩ := k2; exact DataW.trod_lt m _ _ _ hm
  obtain ⟨a2, len2, cap2, rfl⟩ := okWide_slice Try.underlying22 (hval 2 22 v2 rfl rfl)
  obtain ⟨l2, rfl, c2, hr2, w2⟩ := open_nums h2
  clear hA0 hval0
  try simp only [List.append_nil] at hW'
  refine (CurveBest_walk a0 cap0 l0 c0 hr0 w0 a1 w1 a2 cap2 l2 c2 hr2 w2).mono fun e W' ⟨he, bel⟩ => ?_
  subst he
  exact ⟨_, rfl, _, _, _, [], _, [], hW', trodAll_mk1 (shut_bool Try.underlying4 _), (trodAll_cons_mk (Below.trod laidOut (by kernel_rfl) (of_decide_eq_true (by kernel_rfl)) k0 bel lt0) (trodAll_cons_mk (shut_int Try.underlying3 w1) (trodAll_cons_mk (Below.trod laidOut (by kernel_rfl) (of_decide_eq_true (by kernel_rfl)) k2 bel lt2) trodAll_mk0))), rfl, bel.frame _, fun h => by cases h⟩
theorem over : Rows.curveBestRow.holds Try.pinned (OpenSpec.ofChange Rows.curveBestSpec) :=
  OpenClaim.holds_of_wide 4 Try.f4 rfl rfl rfl rfl rfl rfl rfl ⟨rfl, rfl, rfl, rfl, rfl⟩ rfl rfl rfl rfl rfl (by kernel_rfl) Try.func4 (by kernel_rfl)
    (of_decide_eq_true (by kernel_rfl)) (by unfold Func.isWrapper; first | (rw [if_pos (by decide +kernel)]; kernel_rfl) | (rw [if_neg (by decide +kernel)]; exact ⟨rfl, rfl⟩))
    (fun os started H enc _ => lifted os started H enc)
theorem proved : Rows.CurveBestSaid := over
end Go.Proofs.Ytingjpcgehgiiaa.curveBest
namespace Go.Proofs.Ytingjpcgehgiiaa
/-- The row, under a short name, for the claim. -/
theorem curveBest_holds : Rows.CurveBestSaid := curveBest.proved
end Go.Proofs.Ytingjpcgehgiiaa
end
