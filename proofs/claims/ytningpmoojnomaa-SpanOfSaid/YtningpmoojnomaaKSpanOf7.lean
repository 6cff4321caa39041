/- What the proof of the law needs, trimmed and merged by wip/pack.py out of the texts YtningpmoojnomaaPrx15, YtningpmoojnomaaExtHas, YtningpmoojnomaaMath, YtningpmoojnomaaSets, YtningpmoojnomaaSetm, YtningpmoojnomaaArgs, YtningpmoojnomaaWalkSpanOf, YtningpmoojnomaaRowSpanOf. No condition. -/
import Derived.Deep.Slices
import Derived.Deep.Fields
import Derived.ChangeSame
import Derived.Lib.SmallJoins
import Derived.OpenShut
import Derived.Test.YtningpmoojnomaaRows
import Derived.WalkKit
import Derived.ProofKit
import Derived.ShutString
import Derived.ChangeOld
import Derived.Below
import Derived.SizedLaws
import Derived.Test.YtningpmoojnomaaKSpanOf0
import Derived.Test.YtningpmoojnomaaKSpanOf1
import Derived.Test.YtningpmoojnomaaKSpanOf2
import Derived.Test.YtningpmoojnomaaKSpanOf3
import Derived.Test.YtningpmoojnomaaKSpanOf4
import Derived.Test.YtningpmoojnomaaKSpanOf5
import Derived.Test.YtningpmoojnomaaKSpanOf6
section
namespace Go.Proofs.Ytningpmoojnomaa.Pr
open Go.RowKit Go.Proofs.YtningpmoojnomaaW.PrintWords Go.Proofs.YtningpmoojnomaaW.PrintLast Go.Proofs.YtningpmoojnomaaW.PrintMore
attribute [local go_sem] max2_int min2_int max_two min_two max_three min_three max_four min_four   -- for this text's walks alone
set_option linter.unusedVariables false
set_option linter.unusedSimpArgs false
def kimberliteref01_Of.f (k : Nat) (l0 : List (S32)) : Option ((List (S32)) × Int) := (kimberliteref01_List.f k l0).bind fun t213 => (if t213 = 0 then ((kimberliteref01_Made.f k 0 l0 ([] : List (S32))).bind fun t214 => (some (t214, 0))) else (some (([] : List (S32)), t213)))
theorem kimberliteref01_Of.mono : ∀ a0 k, LeO (kimberliteref01_Of.f k a0) (kimberliteref01_Of.f (k + 1) a0) := by
 intro a0 k
 unfold kimberliteref01_Of.f
 repeat' first
  | (with_reducible exact kimberliteref01_List.mono _ _)
  | (with_reducible exact kimberliteref01_Made.mono _ _ _ _)
  | (with_reducible exact LeO.refl _)
  | (with_reducible exact LeO.none _)
  | (with_reducible refine LeO.ite ?_ ?_)
  | (with_reducible refine LeO.bind ?_ (fun _ => ?_))
  | exact kimberliteref01_List.mono _ _
  | exact kimberliteref01_Made.mono _ _ _ _
  | exact LeO.none _
  | refine LeO.ite ?_ ?_
  | refine LeO.bind ?_ (fun _ => ?_)
set_option maxHeartbeats 8000000 in
set_option maxRecDepth 100000 in
theorem kimberliteref01_Of.calls (k : Nat) (A0 : Option Addr) (c0 : Nat) (l0 : List (S32)) (r1 : List (S32)) (r2 : Int) (w : World) (hr0 : Kd.C k32 w A0 l0.length l0) (hc0 : l0.length ≤ c0) (h : kimberliteref01_Of.f k l0 = some (r1, r2)) :
 Calls Try.prog 18 #[.slice A0 l0.length c0] w fun e w' => ∃ v0_ : Value, e = .returned (.tuple #[v0_, .int .i64 r2]) ∧ Kd.R k32 32 w' w.heap.size (fun _ => True) v0_ r1 ∧ Below w.heap.size w w' := by
 have HR0 := Aside0.mk hr0
 have HC0 := Aside0.mk hc0
 clear hr0 hc0
 have HB := Aside0.mk (Below.refl w.heap.size w)
 have H : ((kimberliteref01_List.f k l0).bind fun t213 => (if t213 = 0 then ((kimberliteref01_Made.f k 0 l0 ([] : List (S32))).bind fun t214 => (some (t214, 0))) else (some (([] : List (S32)), t213)))) = some (r1, r2) := h
 clear h
 replace H := Option.bind_eq_some_iff.mp H
 obtain ⟨t213, A20, H⟩ := H
 replace H : (if t213 = 0 then ((kimberliteref01_Made.f k 0 l0 ([] : List (S32))).bind fun t214 => (some (t214, 0))) else (some (([] : List (S32)), t213))) = some (r1, r2) := H
 have A2 := Aside0.mk A20
 clear A20
 by_cases c3 : t213 = 0
 · rw [if_pos c3] at H
   have c3b0 : (t213 == 0) = true := beq_iff_eq.mpr c3
   have c3b1 : (t213 != 0) = false := bne_eq_false_iff_eq.mpr c3
   clear c3
   replace H := Option.bind_eq_some_iff.mp H
   obtain ⟨t214, A40, H⟩ := H
   replace H : (some (t214, 0)) = some (r1, r2) := H
   have A4 := Aside0.mk A40
   clear A40
   simp only [Option.some.injEq, Prod.mk.injEq] at H
   obtain ⟨rfl, rfl⟩ := H
   go_enter Try.func18, Try.ntmps18
   go_wp2_with (first | ((with_reducible refine gate_callee (f := 62) rfl ?_); refine goesL_ (some 6) rfl rfl Try.func62 (by kernel_rfl) rfl #[.slice A0 l0.length c0] rfl (by (try simp only [List.map_toArray, List.map_cons, List.map_nil]); first | done | rfl | (simp only [List.length_drop, List.length_take]; rfl)) ?_; (with_reducible refine (kimberliteref01_List.calls k _ _ l0 t213 _ ?side1 ?side2 A2.out).mono ?_); (case side1 => repeat (first | exact HR0.out | (with_reducible refine Kd.C_alloc ?_ _) | (with_reducible refine Kd.C_drewN ?_ _) | (with_reducible refine Kd.C_drew ?_))); (case side2 => exact HC0.out); rintro e w5 ⟨rfl, hb⟩; refine ⟨_, rfl, ?_⟩; have n0_ := Aside0.mk (below_step (by repeat (first | (with_reducible first | exact HB.out | apply below_alloc | apply pw_below_drewN | apply below_drew1) | exact HB.out)) hb); clear HB; have HB := n0_; clear n0_; (try clear hb); (try clear hb2); (try clear hk); (try clear hi)) | ((with_reducible refine gate_callee (f := 63) rfl ?_); refine goesL_ (some 11) rfl rfl Try.func63 (by kernel_rfl) rfl #[.int .i64 0, .slice A0 l0.length c0, .slice none 0 0] rfl (by (try simp only [List.map_toArray, List.map_cons, List.map_nil]); first | done | rfl | (simp only [List.length_drop, List.length_take]; rfl)) ?_; (refine (kimberliteref01_Made.calls k 0 _ _ l0 _ _ ([] : List (S32)) t214 _ ?side1 ?side2 ?side3 ?side4 A4.out).mono ?_); (case side1 => repeat (first | exact (Kd.C_below HR0.out HB.out) | (with_reducible refine Kd.C_alloc ?_ _) | (with_reducible refine Kd.C_drewN ?_ _) | (with_reducible refine Kd.C_drew ?_))); (case side2 => exact HC0.out); (case side3 => exact Kd.C_nil _ _); (case side4 => exact Nat.le_refl _); rintro e w6 ⟨v215, rfl, ho0, hb⟩; refine ⟨_, rfl, ?_⟩; have n0_ := Aside0.mk (Kd.R_lower ho0 (below_size (by repeat (first | (with_reducible first | exact HB.out | apply below_alloc | apply pw_below_drewN | apply below_drew1) | exact HB.out)))); have n1_ := Aside0.mk (below_step (by repeat (first | (with_reducible first | exact HB.out | apply below_alloc | apply pw_below_drewN | apply below_drew1) | exact HB.out)) hb); clear HB; have HO216 := n0_; have HB := n1_; clear n0_ n1_; (try clear hb); (try clear hb2); (try clear hk); (try clear hi); (try clear ho0)))
   go_ret2
   exact ⟨_, by first | rfl | (simp [errW_none, errW_some] <;> rfl) | (simp [*, errW_none, errW_some] <;> rfl), by (with_reducible repeat (first | apply Kd.R_alloc | apply Kd.R_drewN | apply Kd.R_drew)); exact HO216.out, by repeat (first | (with_reducible first | exact HB.out | apply below_alloc | apply pw_below_drewN | apply below_drew1) | exact HB.out)⟩
 · rw [if_neg c3] at H
   have c3b0 : (t213 == 0) = false := beq_eq_false_iff_ne.mpr c3
   have c3b1 : (t213 != 0) = true := bne_iff_ne.mpr c3
   simp only [Option.some.injEq, Prod.mk.injEq] at H
   obtain ⟨rfl, rfl⟩ := H
   go_enter Try.func18, Try.ntmps18
   go_wp2_with (first | ((with_reducible refine gate_callee (f := 62) rfl ?_); refine goesL_ (some 6) rfl rfl Try.func62 (by kernel_rfl) rfl #[.slice A0 l0.length c0] rfl (by (try simp only [List.map_toArray, List.map_cons, List.map_nil]); first | done | rfl | (simp only [List.length_drop, List.length_take]; rfl)) ?_; (with_reducible refine (kimberliteref01_List.calls k _ _ l0 t213 _ ?side1 ?side2 A2.out).mono ?_); (case side1 => repeat (first | exact HR0.out | (with_reducible refine Kd.C_alloc ?_ _) | (with_reducible refine Kd.C_drewN ?_ _) | (with_reducible refine Kd.C_drew ?_))); (case side2 => exact HC0.out); rintro e w7 ⟨rfl, hb⟩; refine ⟨_, rfl, ?_⟩; have n0_ := Aside0.mk (below_step (by repeat (first | (with_reducible first | exact HB.out | apply below_alloc | apply pw_below_drewN | apply below_drew1) | exact HB.out)) hb); clear HB; have HB := n0_; clear n0_; (try clear hb); (try clear hb2); (try clear hk); (try clear hi)))
   go_ret2
   exact ⟨_, by first | rfl | (simp [errW_none, errW_some] <;> rfl) | (simp [*, errW_none, errW_some] <;> rfl), by first | exact Kd.R_nil _ _ _ _ _ | exact Kd.N_nil _ _ _ _ _ | exact Kd.V_nil _ _ _ _ _ | exact Kd.Q_nil _ _ _ _ _ | exact Kd.S_nil _ _ _ _ _, by repeat (first | (with_reducible first | exact HB.out | apply below_alloc | apply pw_below_drewN | apply below_drew1) | exact HB.out)⟩
end Go.Proofs.Ytningpmoojnomaa.Pr
end
section
namespace Go.Proofs.Ytningpmoojnomaa.Pr
open Go.RowKit Go.Shelf Go.Proofs.YtningpmoojnomaaW.PrintWords Go.Proofs.YtningpmoojnomaaW.PrintLast Go.Proofs.YtningpmoojnomaaW.PrintMore
set_option linter.unusedVariables false
set_option linter.unusedSimpArgs false
def hasS (x : Int) (s : S32) : Bool := decide (s.f0 ≤ x) && decide (x < s.f1)
end Go.Proofs.Ytningpmoojnomaa.Pr
end
section
namespace Go.Proofs.Ytningpmoojnomaa.Pr
open Go.RowKit Go.Proofs.YtningpmoojnomaaW.PrintWords Go.Proofs.YtningpmoojnomaaW.PrintLast Go.Proofs.YtningpmoojnomaaW.PrintMore
set_option linter.unusedVariables false
set_option linter.unusedSimpArgs false
theorem rd_nat (l : List S32) (i : Nat) : rd_T32 l (i : Int) = l.getD i z32 := by unfold rd_T32; rw [Int.toNat_natCast]
theorem wrap_succ {i n : Nat} (h : i < n) (hn : n ≤ 9223372036854775807) : wrap64 ((i : Int) + 1) = ((i + 1 : Nat) : Int) := by
  unfold wrap64
  omega
theorem wrap_pred {i n : Nat} (h0 : 0 < i) (h : i < n) (hn : n ≤ 9223372036854775807) : wrap64 ((i : Int) - 1) = ((i - 1 : Nat) : Int) := by
  unfold wrap64
  omega
theorem mx_eq (a b : Int) : mx a b = max a b := by unfold mx; omega
theorem drop_cons (l : List S32) (i : Nat) (h : i < l.length) : l.drop i = l.getD i z32 :: l.drop (i + 1) := by
  rw [List.drop_eq_getElem_cons h]
  simp [List.getD_eq_getElem?_getD, List.getElem?_eq_getElem h]
def okAt (l : List S32) (i : Nat) : Bool := goodS (l.getD i z32) && (i == 0 || decide ((l.getD (i - 1) z32).f1 < (l.getD i z32).f0))
def validFrom (l : List S32) (i : Nat) : Bool := (List.range' i (l.length - i)).all (okAt l)
theorem validFrom_end (l : List S32) (i : Nat) (h : l.length ≤ i) : validFrom l i = true := by
  unfold validFrom
  rw [Nat.sub_eq_zero_of_le h]
  rfl
theorem validFrom_step (l : List S32) (i : Nat) (h : i < l.length) : validFrom l i = (okAt l i && validFrom l (i + 1)) := by
  unfold validFrom
  rw [show l.length - i = (l.length - (i + 1)) + 1 by omega, List.range'_succ, List.all_cons]
def validS (l : List S32) : Bool := decide (l.length ≤ 128) && validFrom l 0
theorem spanValid_step (l : List S32) (i k : Nat) (h : i < l.length) (hn : l.length ≤ 9223372036854775807) :
    span_Valid.l0 (k + 1) l l (l.length : Int) (i : Int) = span_Valid.j1 k l l (l.length : Int) (i : Int) (!okAt l i) := by
  have hlt : (i : Int) < (l.length : Int) := by omega
  simp only [span_Valid.l0]
  rw [if_pos hlt, if_pos (by omega), if_pos hlt, goodS_f, Option.bind_some]
  unfold okAt
  cases hg : goodS (rd_T32 l (i : Int)) with
  | false => rw [rd_nat] at hg; simp only [hg]; simp
  | true =>
    rw [rd_nat] at hg
    simp only [hg, Bool.true_and]
    rw [if_pos trivial]
    by_cases h0 : i = 0
    · subst h0
      simp
    · have e0 : (i == 0) = false := by simpa using h0
      rw [if_pos (by omega : (i : Int) > 0), wrap_pred (by omega) h hn, if_pos (by omega), if_pos (by omega), rd_nat, rd_nat, e0, Bool.false_or]
      congr 1
      rw [Bool.eq_iff_iff]
      simp
theorem spanValid_loop (l : List S32) (hn : l.length ≤ 9223372036854775807) : ∀ (d i : Nat), l.length - i = d → Ev (fun k => span_Valid.l0 k l l (l.length : Int) (i : Int)) (validFrom l i)
  | 0, i, h => by
    rw [validFrom_end l i (by omega)]
    exact Ev.step (f := fun _ => some true) (fun k => by simp only [span_Valid.l0]; rw [if_neg (by omega)]) (Ev.now _)
  | d + 1, i, h => by
    rw [validFrom_step l i (by omega)]
    refine Ev.step (fun k => spanValid_step l i k (by omega) hn) ?_
    cases okAt l i with
    | true => exact Ev.step (f := fun k => span_Valid.l0 k l l (l.length : Int) ((i + 1 : Nat) : Int)) (fun k => by simp only [span_Valid.j1]; rw [wrap_succ (show i < l.length by omega) hn]; simp) (by simpa using spanValid_loop l hn d (i + 1) (by omega))
    | false => exact Ev.step (f := fun _ => some false) (fun k => by simp only [span_Valid.j1]; simp) (Ev.now _)
theorem spanValid_ev (l : List S32) (hn : l.length ≤ 9223372036854775807) : Ev (fun k => span_Valid.f k l) (validS l) := by
  unfold span_Valid.f validS
  by_cases h : (l.length : Int) > 128
  · rw [show decide (l.length ≤ 128) = false by simp; omega]
    simpa [h] using Ev.now false
  · rw [show decide (l.length ≤ 128) = true by simp; omega]
    simpa [h] using spanValid_loop l hn _ 0 rfl
theorem refGood_f (x : S32) : kimberliteref01_Good.f x.f0 x.f1 = some (goodS x) := goodS_f x
theorem refValid_step (l : List S32) (i k : Nat) (h : i < l.length) (hn : l.length ≤ 9223372036854775807) :
    kimberliteref01_Valid.l0 (k + 1) l (i : Int) = kimberliteref01_Valid.j1 k l (i : Int) (!okAt l i) := by
  have hlt : (i : Int) < (l.length : Int) := by omega
  simp only [kimberliteref01_Valid.l0]
  rw [if_pos hlt, if_pos (by omega), refGood_f, Option.bind_some]
  unfold okAt
  cases hg : goodS (rd_T32 l (i : Int)) with
  | false => rw [rd_nat] at hg; simp only [hg]; simp
  | true =>
    rw [rd_nat] at hg
    simp only [hg, Bool.true_and]
    rw [if_pos trivial]
    by_cases h0 : i = 0
    · subst h0
      simp
    · have e0 : (i == 0) = false := by simpa using h0
      rw [if_pos (by omega : (i : Int) > 0), wrap_pred (by omega) h hn, if_pos (by omega), if_pos (by omega), rd_nat, rd_nat, e0, Bool.false_or]
      congr 1
      rw [Bool.eq_iff_iff]
      simp
theorem refValid_loop (l : List S32) (hn : l.length ≤ 9223372036854775807) : ∀ (d i : Nat), l.length - i = d → Ev (fun k => kimberliteref01_Valid.l0 k l (i : Int)) (validFrom l i)
  | 0, i, h => by
    rw [validFrom_end l i (by omega)]
    exact Ev.step (f := fun _ => some true) (fun k => by simp only [kimberliteref01_Valid.l0]; rw [if_neg (by omega)]) (Ev.now _)
  | d + 1, i, h => by
    rw [validFrom_step l i (by omega)]
    refine Ev.step (fun k => refValid_step l i k (by omega) hn) ?_
    cases okAt l i with
    | true => exact Ev.step (f := fun k => kimberliteref01_Valid.l0 k l ((i + 1 : Nat) : Int)) (fun k => by simp only [kimberliteref01_Valid.j1]; rw [wrap_succ (show i < l.length by omega) hn]; simp) (by simpa using refValid_loop l hn d (i + 1) (by omega))
    | false => exact Ev.step (f := fun _ => some false) (fun k => by simp only [kimberliteref01_Valid.j1]; simp) (Ev.now _)
theorem refValid_ev (l : List S32) (hn : l.length ≤ 9223372036854775807) : Ev (fun k => kimberliteref01_Valid.f k l) (validS l) := by
  unfold kimberliteref01_Valid.f validS
  by_cases h : (l.length : Int) > 128
  · rw [show decide (l.length ≤ 128) = false by simp; omega]
    simpa [h] using Ev.now false
  · rw [show decide (l.length ≤ 128) = true by simp; omega]
    simpa [h] using refValid_loop l hn _ 0 rfl
theorem refIn_loop (l : List S32) (x : Int) (hn : l.length ≤ 9223372036854775807) : ∀ (d i : Nat), l.length - i = d → Ev (fun k => kimberliteref01_in.l0 k l x (i : Int)) ((l.drop i).any (hasS x))
  | 0, i, h => by
    rw [List.drop_eq_nil_of_le (by omega)]
    exact Ev.step (f := fun _ => some false) (fun k => by simp only [kimberliteref01_in.l0]; rw [if_neg (by omega)]) (Ev.now _)
  | d + 1, i, h => by
    have hi : i < l.length := by omega
    rw [drop_cons l i hi, List.any_cons]
    refine Ev.step (f := fun k => kimberliteref01_in.j1 k l x (i : Int) (hasS x (l.getD i z32))) (fun k => ?_) ?_
    · simp only [kimberliteref01_in.l0]
      rw [if_pos (by omega), if_pos (by omega), rd_nat]
      unfold hasS
      by_cases hc : (l.getD i z32).f0 ≤ x
      · rw [if_pos hc, decide_eq_true hc, Bool.true_and]
      · rw [if_neg hc, decide_eq_false hc, Bool.false_and]
    · cases hasS x (l.getD i z32) with
      | true => exact Ev.step (f := fun _ => some true) (fun k => by simp only [kimberliteref01_in.j1]; simp) (Ev.now _)
      | false => exact Ev.step (f := fun k => kimberliteref01_in.l0 k l x ((i + 1 : Nat) : Int)) (fun k => by simp only [kimberliteref01_in.j1]; rw [wrap_succ hi hn]; simp) (by simpa using refIn_loop l x hn d (i + 1) (by omega))
theorem refIn_ev (l : List S32) (x : Int) (hn : l.length ≤ 9223372036854775807) : Ev (fun k => kimberliteref01_in.f k l x) (l.any (hasS x)) := by
  simpa [kimberliteref01_in.f] using refIn_loop l x hn _ 0 rfl
/-- Ascending from lo on, with gaps, below the bound. -/
def Asc (lo : Int) : List S32 → Prop
  | [] => True
  | s :: t => lo ≤ s.f0 ∧ s.f0 < s.f1 ∧ s.f1 ≤ 1099511627776 ∧ Asc (s.f1 + 1) t
theorem goodS_iff (s : S32) : goodS s = true ↔ -1099511627776 ≤ s.f0 ∧ s.f0 < s.f1 ∧ s.f1 ≤ 1099511627776 := by
  unfold goodS
  simp
end Go.Proofs.Ytningpmoojnomaa.Pr
end
section
namespace Go.Proofs.Ytningpmoojnomaa.Pr
open Go.RowKit Go.Proofs.YtningpmoojnomaaW.PrintWords Go.Proofs.YtningpmoojnomaaW.PrintLast Go.Proofs.YtningpmoojnomaaW.PrintMore
set_option linter.unusedVariables false
set_option linter.unusedSimpArgs false
def memS (l : List S32) (x : Int) : Bool := l.any (hasS x)
theorem memS_cons (s : S32) (t : List S32) (x : Int) : memS (s :: t) x = (hasS x s || memS t x) := rfl
theorem memS_perm {a b : List S32} (h : a.Perm b) (x : Int) : memS a x = memS b x := by
  unfold memS
  rw [Bool.eq_iff_iff, List.any_eq_true, List.any_eq_true]
  exact ⟨fun ⟨s, hs, hp⟩ => ⟨s, h.mem_iff.1 hs, hp⟩, fun ⟨s, hs, hp⟩ => ⟨s, h.mem_iff.2 hs, hp⟩⟩
theorem hasS_iff (x : Int) (s : S32) : hasS x s = true ↔ s.f0 ≤ x ∧ x < s.f1 := by unfold hasS; simp
theorem memS_iff (l : List S32) (x : Int) : memS l x = true ↔ ∃ s ∈ l, s.f0 ≤ x ∧ x < s.f1 := by
  unfold memS
  rw [List.any_eq_true]
  simp only [hasS_iff]
theorem asc_low : ∀ (l : List S32) (lo x : Int), Asc lo l → memS l x = true → lo ≤ x
  | [], _, _, _, h => by simp [memS] at h
  | s :: t, lo, x, ⟨h1, h2, h3, h4⟩, h => by
    rw [memS_cons, Bool.or_eq_true, hasS_iff] at h
    rcases h with h | h
    · omega
    · have := asc_low t _ x h4 h
      omega
/-- AN ASCENDING LIST IS KNOWN BY ITS NUMBERS. -/
theorem canon : ∀ (a b : List S32) (lo lo' : Int), Asc lo a → Asc lo' b → (∀ x, memS a x = memS b x) → a = b
  | [], [], _, _, _, _, _ => rfl
  | [], s :: t, _, _, _, ⟨_, h2, _, _⟩, h => by
    have := h s.f0
    rw [memS_cons, show hasS s.f0 s = true from (hasS_iff _ _).2 ⟨Int.le_refl _, h2⟩] at this
    simp [memS] at this
  | s :: t, [], _, _, ⟨_, h2, _, _⟩, _, h => by
    have := h s.f0
    rw [memS_cons, show hasS s.f0 s = true from (hasS_iff _ _).2 ⟨Int.le_refl _, h2⟩] at this
    simp [memS] at this
  | s :: t, s' :: t', lo, lo', ha, hb, h => by
    have ha' : Asc s.f0 (s :: t) := ⟨Int.le_refl _, ha.2⟩
    have hb' : Asc s'.f0 (s' :: t') := ⟨Int.le_refl _, hb.2⟩
    have m0 : memS (s :: t) s.f0 = true := by rw [memS_cons, (hasS_iff s.f0 s).2 ⟨Int.le_refl _, ha.2.1⟩]; rfl
    have m0' : memS (s' :: t') s'.f0 = true := by rw [memS_cons, (hasS_iff s'.f0 s').2 ⟨Int.le_refl _, hb.2.1⟩]; rfl
    have e0 : s.f0 = s'.f0 := by
      have h1 := asc_low _ _ _ hb' ((h s.f0).symm.trans m0)
      have h2 := asc_low _ _ _ ha' ((h s'.f0).trans m0')
      omega
    have nt : ∀ x, x ≤ s.f1 → memS t x = false := fun x hx => by
      rw [← Bool.not_eq_true]
      intro hc
      have := asc_low _ _ _ ha.2.2.2 hc
      omega
    have nt' : ∀ x, x ≤ s'.f1 → memS t' x = false := fun x hx => by
      rw [← Bool.not_eq_true]
      intro hc
      have := asc_low _ _ _ hb.2.2.2 hc
      omega
    have e1 : s.f1 = s'.f1 := by
      rcases Int.lt_trichotomy s.f1 s'.f1 with hlt | heq | hgt
      · have := h s.f1
        rw [memS_cons, memS_cons, nt s.f1 (Int.le_refl _), (hasS_iff s.f1 s').2 ⟨by have := ha.2.1; omega, hlt⟩] at this
        simp [hasS] at this
      · exact heq
      · have := h s'.f1
        rw [memS_cons, memS_cons, nt' s'.f1 (Int.le_refl _), (hasS_iff s'.f1 s).2 ⟨by have := hb.2.1; omega, hgt⟩] at this
        simp [hasS] at this
    have es : s = s' := by
      cases s
      cases s'
      simp at e0 e1
      subst e0 e1
      rfl
    subst es
    rw [canon t t' _ _ ha.2.2.2 hb.2.2.2 (fun x => by
      rcases Int.lt_or_le s.f1 x with hx | hx
      · have := h x
        rw [memS_cons, memS_cons, show hasS x s = false by rw [← Bool.not_eq_true, hasS_iff]; omega] at this
        simpa using this
      · rw [nt x hx, nt' x hx])]
def jn : List S32 → Option S32 → List S32
  | [], cur => cur.toList
  | s :: t, none => jn t (some s)
  | s :: t, some c => if s.f0 ≤ c.f1 then jn t (some ⟨c.f0, max c.f1 s.f1⟩) else c :: jn t (some s)
theorem jn_spec : ∀ (l : List S32) (cur : Option S32) (lo : Int), l.Pairwise (fun a b => a.f0 ≤ b.f0) → (∀ s ∈ l, lo ≤ s.f0 ∧ s.f0 < s.f1 ∧ s.f1 ≤ 1099511627776) →
    (∀ c, cur = some c → lo ≤ c.f0 ∧ c.f0 < c.f1 ∧ c.f1 ≤ 1099511627776 ∧ ∀ s ∈ l, c.f0 ≤ s.f0) → Asc lo (jn l cur) ∧ ∀ x, memS (jn l cur) x = (memS cur.toList x || memS l x)
  | [], none, lo, _, _, _ => ⟨trivial, fun x => by simp [jn, memS]⟩
  | [], some c, lo, _, _, hc => by
    obtain ⟨h1, h2, h3, _⟩ := hc c rfl
    exact ⟨⟨h1, h2, h3, trivial⟩, fun x => by simp [jn, memS]⟩
  | s :: t, none, lo, hp, hl, _ => by
    rw [List.pairwise_cons] at hp
    obtain ⟨h1, h2, h3⟩ := hl s (List.mem_cons_self)
    obtain ⟨ha, hm⟩ := jn_spec t (some s) lo hp.2 (fun x hx => hl x (List.mem_cons_of_mem _ hx)) (fun c hc => by
      injection hc with hc
      subst hc
      exact ⟨h1, h2, h3, hp.1⟩)
    exact ⟨ha, fun x => by rw [jn, hm x]; simp [memS]⟩
  | s :: t, some c, lo, hp, hl, hc => by
    rw [List.pairwise_cons] at hp
    obtain ⟨h1, h2, h3⟩ := hl s (List.mem_cons_self)
    obtain ⟨c1, c2, c3, c4⟩ := hc c rfl
    have c5 := c4 s (List.mem_cons_self)
    rw [jn]
    by_cases hle : s.f0 ≤ c.f1
    · rw [if_pos hle]
      obtain ⟨ha, hm⟩ := jn_spec t (some ⟨c.f0, max c.f1 s.f1⟩) lo hp.2 (fun x hx => hl x (List.mem_cons_of_mem _ hx)) (fun d hd => by
        injection hd with hd
        subst hd
        exact ⟨c1, by simp; omega, by simp; omega, fun x hx => c4 x (List.mem_cons_of_mem _ hx)⟩)
      refine ⟨ha, fun x => ?_⟩
      rw [hm x, memS_cons, ← Bool.or_assoc]
      congr 1
      simp only [Option.toList_some, memS, List.any_cons, List.any_nil, Bool.or_false]
      rw [Bool.eq_iff_iff, Bool.or_eq_true, hasS_iff, hasS_iff, hasS_iff]
      simp only
      omega
    · rw [if_neg hle]
      obtain ⟨ha, hm⟩ := jn_spec t (some s) (c.f1 + 1) hp.2 (fun x hx => by
        have := hl x (List.mem_cons_of_mem _ hx)
        have := hp.1 x hx
        exact ⟨by omega, by omega, by omega⟩) (fun d hd => by
        injection hd with hd
        subst hd
        exact ⟨by omega, h2, h3, hp.1⟩)
      exact ⟨⟨c1, c2, c3, ha⟩, fun x => by rw [memS_cons, hm x]; simp [memS]⟩
theorem rd_last (p : List S32) (c : S32) : rd_T32 (p ++ [c]) ((p.length : Nat) : Int) = c := by
  rw [rd_nat]
  simp [List.getD_eq_getElem?_getD]
theorem set_last (p : List S32) (c d : S32) : (p ++ [c]).set p.length d = p ++ [d] := by
  rw [List.set_append_right _ _ (Nat.le_refl _)]
  simp
theorem len_last (p : List S32) (c : S32) (h : p.length < 4611686018427387904) : wrap64 (((p ++ [c]).length : Int) - 1) = ((p.length : Nat) : Int) := by
  rw [List.length_append, List.length_singleton]
  unfold wrap64
  omega
theorem joined_loop (l : List S32) (hn : l.length ≤ 1000000) : ∀ (d i : Nat) (p : List S32) (c : S32), l.length - i = d → i ≤ l.length → p.length + 1 ≤ i →
    Ev (fun k => span_joined.l0 k (p ++ [c]) l (l.length : Int) (i : Int)) (p ++ jn (l.drop i) (some c))
  | 0, i, p, c, h, _, _ => by
    rw [List.drop_eq_nil_of_le (by omega)]
    exact Ev.step (f := fun _ => some (p ++ [c])) (fun k => by simp only [span_joined.l0]; rw [if_neg (by omega)]) (Ev.now _)
  | d + 1, i, p, c, h, hi', hp => by
    have hi : i < l.length := by omega
    have hw := len_last p c (by omega)
    have hlen : (((p ++ [c]).length : Nat) : Int) = (p.length : Int) + 1 := by simp
    rw [drop_cons l i hi, jn]
    refine Ev.step (f := fun k => span_joined.j1 k (p ++ [c]) ((p ++ [c]).length : Int) l (l.length : Int) (i : Int) (decide ((l.getD i z32).f0 ≤ c.f1)) (l.getD i z32).f0 (l.getD i z32).f1) (fun k => ?_) ?_
    · simp only [span_joined.l0]
      rw [if_pos (by omega), if_pos (by omega), if_pos (by omega), rd_nat, if_pos (by omega), hw, if_pos (by omega), if_pos (by omega), rd_last]
    · by_cases hle : (l.getD i z32).f0 ≤ c.f1
      · rw [if_pos hle, decide_eq_true hle]
        refine Ev.step (f := fun k => span_joined.l0 k (p ++ [⟨c.f0, max c.f1 (l.getD i z32).f1⟩]) l (l.length : Int) ((i + 1 : Nat) : Int)) (fun k => ?_) (joined_loop l hn d (i + 1) p _ (by omega) (by omega) (by omega))
        simp only [span_joined.j1]
        rw [if_pos trivial, hw, if_pos (by omega), if_pos (by omega), rd_last, wrap_succ hi (by omega), Int.toNat_natCast, set_last, mx_eq]
      · rw [if_neg hle, decide_eq_false hle]
        have := joined_loop l hn d (i + 1) (p ++ [c]) (l.getD i z32) (by omega) (by omega) (by simp; omega)
        rw [show p ++ c :: jn (l.drop (i + 1)) (some (l.getD i z32)) = (p ++ [c]) ++ jn (l.drop (i + 1)) (some (l.getD i z32)) by simp]
        refine Ev.step (fun k => ?_) this
        simp only [span_joined.j1]
        rw [if_neg (by simp), if_pos (by simp; omega), wrap_succ hi (by omega)]
theorem joined_ev (l : List S32) (hn : l.length ≤ 1000000) : Ev (fun k => span_joined.f k l) (jn l none) := by
  unfold span_joined.f
  rcases l with _ | ⟨s, t⟩
  · exact Ev.step (f := fun _ => some []) (fun k => by simp only [span_joined.l0]; simp) (Ev.now _)
  · refine Ev.step (f := fun k => span_joined.j1 k [] 0 (s :: t) ((s :: t).length : Int) 0 false s.f0 s.f1) (fun k => ?_) ?_
    · simp only [span_joined.l0]
      rw [if_pos (by simp), if_pos (by omega), if_pos (by simp)]
      simp [rd_T32]
    · have := joined_loop (s :: t) hn t.length 1 [] s (by simp) (by simp) (by simp)
      refine Ev.step (fun k => ?_) this
      simp only [span_joined.j1]
      rw [if_neg (by simp), if_pos (by simp)]
      simp [wrap64]
def putRest (x : Int) : List Int → Bool → List Int
  | [], done => if done = true then [] else [x]
  | y :: t, done => if done = false ∧ x ≤ y then (if y = x then x :: putRest x t true else x :: y :: putRest x t true) else (if y = x then putRest x t done else y :: putRest x t done)
def putL (l : List Int) (x : Int) : List Int := putRest x l false
theorem putRest_done (x : Int) : ∀ l : List Int, (∀ y ∈ l, x < y) → putRest x l true = l
  | [], _ => rfl
  | y :: t, h => by
    have := h y (List.mem_cons_self)
    rw [putRest, if_neg (by simp), if_neg (by omega), putRest_done x t (fun z hz => h z (List.mem_cons_of_mem _ hz))]
theorem putL_spec (x : Int) : ∀ l : List Int, l.Pairwise (· < ·) → (putL l x).Pairwise (· < ·) ∧ (∀ z, z ∈ putL l x ↔ z = x ∨ z ∈ l) ∧ (putL l x).length ≤ l.length + 1
  | [], _ => by simp [putL, putRest]
  | y :: t, h => by
    have h0 := h
    rw [List.pairwise_cons] at h
    have ih := putL_spec x t h.2
    unfold putL at ih ⊢
    rw [putRest]
    by_cases hle : x ≤ y
    · rw [if_pos ⟨rfl, hle⟩]
      have hgt : ∀ z ∈ t, x < z := fun z hz => by have := h.1 z hz; omega
      rw [putRest_done x t hgt]
      by_cases he : y = x
      · subst he
        rw [if_pos rfl]
        exact ⟨h0, fun z => by simp, by simp⟩
      · rw [if_neg he]
        refine ⟨?_, fun z => by simp, by simp⟩
        rw [List.pairwise_cons]
        refine ⟨fun z hz => ?_, h0⟩
        rcases List.mem_cons.1 hz with rfl | hz
        · omega
        · exact hgt z hz
    · rw [if_neg (fun hc => hle hc.2), if_neg (by omega)]
      refine ⟨?_, fun z => ?_, ?_⟩
      · rw [List.pairwise_cons]
        refine ⟨fun z hz => ?_, ih.1⟩
        rcases (ih.2.1 z).1 hz with rfl | hz
        · omega
        · exact h.1 z hz
      · rw [List.mem_cons, ih.2.1 z, List.mem_cons]
        exact ⟨fun h => h.elim (fun h => .inr (.inl h)) (fun h => h.elim .inl (fun h => .inr (.inr h))), fun h => h.elim (fun h => .inr (.inl h)) (fun h => h.elim .inl (fun h => .inr (.inr h)))⟩
      · have := ih.2.2
        simp
        omega
theorem dropI (l : List Int) (i : Nat) (h : i < l.length) : l.drop i = rd l (i : Int) :: l.drop (i + 1) := by
  rw [List.drop_eq_getElem_cons h]
  unfold rd
  simp [List.getD_eq_getElem?_getD, List.getElem?_eq_getElem h]
theorem put_loop (l : List Int) (x : Int) (hn : l.length ≤ 1000000) : ∀ (d i : Nat) (out : List Int) (done : Bool), l.length - i = d → out.length ≤ 2 * i → i ≤ l.length →
    Ev (fun k => kimberliteref01_put.l0 k l x out done (i : Int)) (out ++ putRest x (l.drop i) done)
  | 0, i, out, done, h, ho, _ => by
    rw [List.drop_eq_nil_of_le (by omega), putRest]
    cases done with
    | true => exact Ev.step (f := fun _ => some (out ++ [])) (fun k => by simp only [kimberliteref01_put.l0]; rw [if_neg (by omega)]; simp) (Ev.now _)
    | false => exact Ev.step (f := fun _ => some (out ++ [x])) (fun k => by simp only [kimberliteref01_put.l0]; rw [if_neg (by omega), if_neg (by simp), if_pos (by omega)]) (Ev.now _)
  | d + 1, i, out, done, h, ho, hi' => by
    have hi : i < l.length := by omega
    rw [dropI l i hi]
    -- the second half of a round
    have half : ∀ (o : List Int) (b : Bool), o.length ≤ 2 * i + 1 → Ev (fun k => kimberliteref01_put.j2 k l x o b (i : Int)) (o ++ (if rd l (i : Int) = x then putRest x (l.drop (i + 1)) b else rd l (i : Int) :: putRest x (l.drop (i + 1)) b)) := by
      intro o b hob
      by_cases he : rd l (i : Int) = x
      · rw [if_pos he]
        refine Ev.step (fun k => ?_) (put_loop l x hn d (i + 1) o b (by omega) (by omega) (by omega))
        simp only [kimberliteref01_put.j2]
        rw [if_pos (by omega), if_pos (by omega), if_pos he, wrap_succ hi (by omega)]
      · rw [if_neg he]
        have := put_loop l x hn d (i + 1) (o ++ [rd l (i : Int)]) b (by omega) (by simp; omega) (by omega)
        rw [List.append_assoc, List.singleton_append] at this
        refine Ev.step (fun k => ?_) this
        simp only [kimberliteref01_put.j2]
        rw [if_pos (by omega), if_pos (by omega), if_neg he, if_pos (by omega), wrap_succ hi (by omega)]
    rw [putRest]
    cases done with
    | true =>
      rw [if_neg (by simp)]
      refine Ev.step (f := fun k => kimberliteref01_put.j1 k l x out true (i : Int) false) (fun k => by simp only [kimberliteref01_put.l0]; rw [if_pos (by omega)]; simp) ?_
      exact Ev.step (fun k => by simp only [kimberliteref01_put.j1]; simp) (half out true (by omega))
    | false =>
      refine Ev.step (f := fun k => kimberliteref01_put.j1 k l x out false (i : Int) (decide (x ≤ rd l (i : Int)))) (fun k => by simp only [kimberliteref01_put.l0]; rw [if_pos (by omega), if_neg (by simp), if_pos (by omega)]) ?_
      by_cases hle : x ≤ rd l (i : Int)
      · rw [if_pos ⟨rfl, hle⟩, decide_eq_true hle]
        have := half (out ++ [x]) true (by simp; omega)
        rw [List.append_assoc, List.singleton_append] at this
        refine Ev.step (f := fun k => kimberliteref01_put.j2 k l x (out ++ [x]) true (i : Int)) (fun k => by simp only [kimberliteref01_put.j1]; rw [if_pos trivial, if_pos (by omega)]) ?_
        by_cases he : rd l (i : Int) = x
        · rw [if_pos he] at this ⊢
          exact this
        · rw [if_neg he] at this ⊢
          exact this
      · rw [if_neg (fun hc => hle hc.2), decide_eq_false hle]
        exact Ev.step (fun k => by simp only [kimberliteref01_put.j1]; simp) (half out false (by omega))
theorem put_ev (l : List Int) (x : Int) (hn : l.length ≤ 1000000) : Ev (fun k => kimberliteref01_put.f k l x) (putL l x) := by
  simpa [kimberliteref01_put.f, putL] using put_loop l x hn _ 0 [] false rfl (by simp) (by simp)
def endsL (E : List Int) (l : List S32) : List Int := l.foldl (fun E s => putL (putL E s.f0) s.f1) E
theorem endsL_spec : ∀ (l : List S32) (E : List Int), E.Pairwise (· < ·) → (endsL E l).Pairwise (· < ·) ∧ (∀ z, z ∈ endsL E l ↔ z ∈ E ∨ ∃ s ∈ l, z = s.f0 ∨ z = s.f1) ∧ (endsL E l).length ≤ E.length + 2 * l.length
  | [], E, h => by simp [endsL, h]
  | s :: t, E, h => by
    obtain ⟨p1, m1, n1⟩ := putL_spec s.f0 E h
    obtain ⟨p2, m2, n2⟩ := putL_spec s.f1 _ p1
    obtain ⟨p3, m3, n3⟩ := endsL_spec t _ p2
    refine ⟨p3, fun z => ?_, ?_⟩
    · show z ∈ endsL _ t ↔ _
      rw [m3 z, m2 z, m1 z]
      simp only [List.mem_cons, exists_eq_or_imp]
      constructor
      · rintro ((h | h | h) | h)
        · exact .inr (.inl (.inr h))
        · exact .inr (.inl (.inl h))
        · exact .inl h
        · exact .inr (.inr h)
      · rintro (h | (h | h) | h)
        · exact .inl (.inr (.inr h))
        · exact .inl (.inr (.inl h))
        · exact .inl (.inl h)
        · exact .inr h
    · show (endsL _ t).length ≤ _
      simp
      omega
theorem made_l0 (kind : Int) (a b : List S32) (r : List S32) (ha : a.length ≤ 1000) : ∀ (d i : Nat) (E : List Int), a.length - i = d → E.Pairwise (· < ·) → E.length ≤ 2 * i →  i ≤ a.length →
    Ev (fun k => kimberliteref01_Made.l1 k kind a b (endsL E (a.drop i)) 0) r → Ev (fun k => kimberliteref01_Made.l0 k kind a b E (i : Int)) r
  | 0, i, E, h, hp, he, _, hr => by
    rw [List.drop_eq_nil_of_le (by omega)] at hr
    exact Ev.step (fun k => by simp only [kimberliteref01_Made.l0]; rw [if_neg (by omega)]; rfl) hr
  | d + 1, i, E, h, hp, he, hi', hr => by
    have hi : i < a.length := by omega
    rw [drop_cons a i hi] at hr
    obtain ⟨p1, m1, n1⟩ := putL_spec (a.getD i z32).f0 E hp
    obtain ⟨p2, m2, n2⟩ := putL_spec (a.getD i z32).f1 _ p1
    refine Ev.step (f := fun k => (kimberliteref01_put.f k E (a.getD i z32).f0).bind fun t179 => ((kimberliteref01_put.f k t179 (a.getD i z32).f1).bind fun t183 => (kimberliteref01_Made.l0 k kind a b t183 ((i + 1 : Nat) : Int)))) (fun k => ?_) ?_
    · simp only [kimberliteref01_Made.l0]
      rw [if_pos (by omega), if_pos (by omega), rd_nat, wrap_succ hi (by omega)]
    · refine Ev.bind (put_ev _ _ (by omega)) (Ev.bind (put_ev _ _ (by omega)) ?_)
      exact made_l0 kind a b r ha d (i + 1) _ (by omega) p2 (by omega) (by omega) hr
theorem made_l1 (kind : Int) (a b : List S32) (r : List S32) (hb : b.length ≤ 1000) (N : Nat) (hN : N ≤ 2000) : ∀ (d i : Nat) (E : List Int), b.length - i = d → E.Pairwise (· < ·) → E.length ≤ N + 2 * i → i ≤ b.length →
    Ev (fun k => kimberliteref01_Made.l2 k kind a b (endsL E (b.drop i)) [] 0) r → Ev (fun k => kimberliteref01_Made.l1 k kind a b E (i : Int)) r
  | 0, i, E, h, hp, he, _, hr => by
    rw [List.drop_eq_nil_of_le (by omega)] at hr
    exact Ev.step (fun k => by simp only [kimberliteref01_Made.l1]; rw [if_neg (by omega)]; rfl) hr
  | d + 1, i, E, h, hp, he, hi', hr => by
    have hi : i < b.length := by omega
    rw [drop_cons b i hi] at hr
    obtain ⟨p1, m1, n1⟩ := putL_spec (b.getD i z32).f0 E hp
    obtain ⟨p2, m2, n2⟩ := putL_spec (b.getD i z32).f1 _ p1
    refine Ev.step (f := fun k => (kimberliteref01_put.f k E (b.getD i z32).f0).bind fun t179 => ((kimberliteref01_put.f k t179 (b.getD i z32).f1).bind fun t183 => (kimberliteref01_Made.l1 k kind a b t183 ((i + 1 : Nat) : Int)))) (fun k => ?_) ?_
    · simp only [kimberliteref01_Made.l1]
      rw [if_pos (by omega), if_pos (by omega), rd_nat, wrap_succ hi (by omega)]
    · refine Ev.bind (put_ev _ _ (by omega)) (Ev.bind (put_ev _ _ (by omega)) ?_)
      exact made_l1 kind a b r hb N hN d (i + 1) _ (by omega) p2 (by omega) (by omega) hr
def gen (p : Int → Bool) : List Int → Option S32 → List S32
  | e :: e' :: t, none => if p e = true then gen p (e' :: t) (some ⟨e, e'⟩) else gen p (e' :: t) none
  | e :: e' :: t, some c => if p e = true then (if c.f1 = e then gen p (e' :: t) (some ⟨c.f0, e'⟩) else c :: gen p (e' :: t) (some ⟨e, e'⟩)) else gen p (e' :: t) (some c)
  | _, cur => cur.toList
def inP (p : Int → Bool) : List Int → Int → Bool
  | e :: e' :: t, x => (p e && (decide (e ≤ x) && decide (x < e'))) || inP p (e' :: t) x
  | _, _ => false
theorem inP_low (p : Int → Bool) : ∀ (E : List Int) (x : Int), (∀ e ∈ E, x < e) → inP p E x = false
  | [], _, _ => rfl
  | [_], _, _ => rfl
  | e :: e' :: t, x, h => by
    rw [inP, inP_low p (e' :: t) x (fun z hz => h z (List.mem_cons_of_mem _ hz))]
    have := h e (List.mem_cons_self)
    rw [show decide (e ≤ x) = false by simp; omega]
    simp
theorem gen_spec (p : Int → Bool) : ∀ (E : List Int) (cur : Option S32) (lo : Int), E.Pairwise (· < ·) → (∀ e ∈ E, lo ≤ e ∧ e ≤ 1099511627776) →
    (∀ c, cur = some c → lo ≤ c.f0 ∧ c.f0 < c.f1 ∧ c.f1 ≤ 1099511627776 ∧ ∀ e ∈ E, c.f1 ≤ e) → Asc lo (gen p E cur) ∧ ∀ x, memS (gen p E cur) x = (memS cur.toList x || inP p E x)
  | [], cur, lo, _, _, hc => by
    cases cur with
    | none => exact ⟨trivial, fun x => by simp [gen, inP, memS]⟩
    | some c => obtain ⟨h1, h2, h3, _⟩ := hc c rfl; exact ⟨⟨h1, h2, h3, trivial⟩, fun x => by simp [gen, inP, memS]⟩
  | [e], cur, lo, _, _, hc => by
    cases cur with
    | none => exact ⟨trivial, fun x => by simp [gen, inP, memS]⟩
    | some c => obtain ⟨h1, h2, h3, _⟩ := hc c rfl; exact ⟨⟨h1, h2, h3, trivial⟩, fun x => by simp [gen, inP, memS]⟩
  | e :: e' :: t, none, lo, hp, hE, _ => by
    rw [List.pairwise_cons] at hp
    have hee := hp.1 e' (List.mem_cons_self)
    have he := hE e (List.mem_cons_self)
    have he' := hE e' (List.mem_cons_of_mem _ List.mem_cons_self)
    have hE' := fun z hz => hE z (List.mem_cons_of_mem _ hz)
    rw [gen]
    by_cases hpe : p e = true
    · rw [if_pos hpe]
      obtain ⟨ha, hm⟩ := gen_spec p (e' :: t) (some ⟨e, e'⟩) lo hp.2 hE' (fun c hc => by
        injection hc with hc
        subst hc
        refine ⟨he.1, hee, he'.2, fun z hz => ?_⟩
        rcases List.mem_cons.1 hz with rfl | hz
        · exact Int.le_refl _
        · have := (List.pairwise_cons.1 hp.2).1 z hz
          exact Int.le_of_lt this)
      refine ⟨ha, fun x => ?_⟩
      rw [hm x, inP, hpe]
      simp [memS, hasS]
    · rw [if_neg hpe]
      obtain ⟨ha, hm⟩ := gen_spec p (e' :: t) none lo hp.2 hE' (fun c hc => by cases hc)
      refine ⟨ha, fun x => ?_⟩
      rw [hm x, inP, Bool.eq_false_iff.2 hpe]
      simp
  | e :: e' :: t, some c, lo, hp, hE, hc => by
    rw [List.pairwise_cons] at hp
    have hee := hp.1 e' (List.mem_cons_self)
    have he := hE e (List.mem_cons_self)
    have he' := hE e' (List.mem_cons_of_mem _ List.mem_cons_self)
    have hE' := fun z hz => hE z (List.mem_cons_of_mem _ hz)
    have hle' : ∀ z ∈ e' :: t, e' ≤ z := fun z hz => by
      rcases List.mem_cons.1 hz with rfl | hz
      · exact Int.le_refl _
      · have := (List.pairwise_cons.1 hp.2).1 z hz
        exact Int.le_of_lt this
    obtain ⟨c1, c2, c3, c4⟩ := hc c rfl
    have c5 := c4 e (List.mem_cons_self)
    rw [gen]
    by_cases hpe : p e = true
    · rw [if_pos hpe]
      by_cases hce : c.f1 = e
      · rw [if_pos hce]
        obtain ⟨ha, hm⟩ := gen_spec p (e' :: t) (some ⟨c.f0, e'⟩) lo hp.2 hE' (fun d hd => by
          injection hd with hd
          subst hd
          exact ⟨c1, by simp; omega, he'.2, hle'⟩)
        refine ⟨ha, fun x => ?_⟩
        rw [hm x, inP, hpe, ← Bool.or_assoc]
        congr 1
        simp only [Option.toList_some, memS, List.any_cons, List.any_nil, Bool.or_false, hasS, Bool.true_and]
        rw [Bool.eq_iff_iff]
        simp
        omega
      · rw [if_neg hce]
        obtain ⟨ha, hm⟩ := gen_spec p (e' :: t) (some ⟨e, e'⟩) (c.f1 + 1) hp.2 (fun z hz => by
          have := hle' z hz
          exact ⟨by omega, (hE' z hz).2⟩) (fun d hd => by
          injection hd with hd
          subst hd
          exact ⟨by simp; omega, hee, he'.2, hle'⟩)
        refine ⟨⟨c1, c2, c3, ha⟩, fun x => ?_⟩
        rw [memS_cons, hm x, inP, hpe]
        simp [memS, hasS]
    · rw [if_neg hpe]
      obtain ⟨ha, hm⟩ := gen_spec p (e' :: t) (some c) lo hp.2 hE' (fun d hd => by
        injection hd with hd
        subst hd
        exact ⟨c1, c2, c3, fun z hz => c4 z (List.mem_cons_of_mem _ hz)⟩)
      refine ⟨ha, fun x => ?_⟩
      rw [hm x, inP, Bool.eq_false_iff.2 hpe]
      simp
/-- Between two ends that follow one another all numbers are alike. -/
theorem floor_mem (l : List S32) (e e' x : Int) (h : ∀ s ∈ l, (s.f0 ≤ e ∨ e' ≤ s.f0) ∧ (s.f1 ≤ e ∨ e' ≤ s.f1)) (h1 : e ≤ x) (h2 : x < e') : memS l x = memS l e := by
  rw [Bool.eq_iff_iff, memS_iff, memS_iff]
  constructor
  · rintro ⟨s, hs, hx⟩
    have := h s hs
    exact ⟨s, hs, by omega⟩
  · rintro ⟨s, hs, hx⟩
    have := h s hs
    exact ⟨s, hs, by omega⟩
theorem inP_floor (q : Bool → Bool → Bool) (hq : q false false = false) (a b : List S32) : ∀ (E : List Int), E.Pairwise (· < ·) → E ≠ [] →
    (∀ s, s ∈ a ∨ s ∈ b → (s.f0 ∈ E ∨ ∀ z ∈ E, s.f0 ≤ z) ∧ (s.f1 ∈ E ∨ ∀ z ∈ E, s.f1 ≤ z)) → ∀ x, (∃ e ∈ E.head?, e ≤ x) → inP (fun e => q (memS a e) (memS b e)) E x = q (memS a x) (memS b x)
  | [], _, h, _, _, _ => absurd rfl h
  | [e], _, _, h, x, ⟨e0, he0, hx⟩ => by
    simp at he0
    subst he0
    have key : ∀ l : List S32, (∀ s ∈ l, s ∈ a ∨ s ∈ b) → memS l x = false := fun l hl => by
      rw [← Bool.not_eq_true, memS_iff]
      rintro ⟨s, hs, hsx⟩
      have := (h s (hl s hs)).2
      rcases this with this | this
      · simp at this; omega
      · have := this e (List.mem_cons_self); omega
    rw [key a (fun s hs => .inl hs), key b (fun s hs => .inr hs), hq]
    rfl
  | e :: e' :: t, hp, _, h, x, ⟨e0, he0, hx⟩ => by
    simp at he0
    subst he0
    rw [List.pairwise_cons] at hp
    have hlow : ∀ z ∈ e' :: t, e' ≤ z := fun z hz => by
      rcases List.mem_cons.1 hz with rfl | hz
      · exact Int.le_refl _
      · have := (List.pairwise_cons.1 hp.2).1 z hz
        exact Int.le_of_lt this
    have hee := hp.1 e' (List.mem_cons_self)
    have side : ∀ v : Int, (v ∈ e :: e' :: t ∨ ∀ z ∈ e :: e' :: t, v ≤ z) → v ≤ e ∨ e' ≤ v := fun v hv => by
      rcases hv with hv | hv
      · rcases List.mem_cons.1 hv with rfl | hv
        · exact .inl (Int.le_refl _)
        · exact .inr (hlow v hv)
      · exact .inl (hv e (List.mem_cons_self))
    rw [inP]
    by_cases hx' : x < e'
    · rw [inP_low _ (e' :: t) x (fun z hz => by have := hlow z hz; omega), decide_eq_true hx, decide_eq_true hx']
      rw [floor_mem a e e' x (fun s hs => ⟨side _ (h s (.inl hs)).1, side _ (h s (.inl hs)).2⟩) hx hx', floor_mem b e e' x (fun s hs => ⟨side _ (h s (.inr hs)).1, side _ (h s (.inr hs)).2⟩) hx hx']
      simp
    · rw [decide_eq_false hx', Bool.and_false, Bool.and_false, Bool.false_or]
      refine inP_floor q hq a b (e' :: t) hp.2 (by simp) (fun s hs => ?_) x ⟨e', by simp, by omega⟩
      have step : ∀ v : Int, (v ∈ e :: e' :: t ∨ ∀ z ∈ e :: e' :: t, v ≤ z) → v ∈ e' :: t ∨ ∀ z ∈ e' :: t, v ≤ z := fun v hv => by
        rcases hv with hv | hv
        · rcases List.mem_cons.1 hv with rfl | hv
          · exact .inr (fun z hz => Int.le_of_lt (hp.1 z hz))
          · exact .inl hv
        · exact .inr (fun z hz => hv z (List.mem_cons_of_mem _ hz))
      exact ⟨step _ (h s hs).1, step _ (h s hs).2⟩
/-- WHAT THE PIECES COME TO. -/
theorem inP_ends (q : Bool → Bool → Bool) (hq : q false false = false) (a b : List S32) (hv : ∀ s, s ∈ a ∨ s ∈ b → s.f0 < s.f1) (E : List Int) (hp : E.Pairwise (· < ·)) (hE : ∀ s, s ∈ a ∨ s ∈ b → s.f0 ∈ E ∧ s.f1 ∈ E) (x : Int) :
    inP (fun e => q (memS a e) (memS b e)) E x = q (memS a x) (memS b x) := by
  have low : (∀ e ∈ E, x < e) → inP (fun e => q (memS a e) (memS b e)) E x = q (memS a x) (memS b x) := fun hlow => by
    have key : ∀ l : List S32, (∀ s ∈ l, s ∈ a ∨ s ∈ b) → memS l x = false := fun l hl => by
      rw [← Bool.not_eq_true, memS_iff]
      rintro ⟨s, hs, hsx⟩
      have := hlow _ (hE s (hl s hs)).1
      omega
    rw [inP_low _ E x hlow, key a (fun s hs => .inl hs), key b (fun s hs => .inr hs), hq]
  rcases E with _ | ⟨e, t⟩
  · exact low (fun e he => absurd he (by simp))
  · by_cases hx : e ≤ x
    · exact inP_floor q hq a b (e :: t) hp (by simp) (fun s hs => ⟨.inl (hE s hs).1, .inl (hE s hs).2⟩) x ⟨e, by simp, hx⟩
    · refine low (fun z hz => ?_)
      rcases List.mem_cons.1 hz with rfl | hz
      · omega
      · have := (List.pairwise_cons.1 hp).1 z hz
        omega
def keepsB (kind : Int) (a b : Bool) : Bool := if kind = 0 then a || b else if kind = 1 then a && b else a && !b
theorem keeps_f (kind : Int) (a b : Bool) : kimberliteref01_keeps.f kind a b = some (keepsB kind a b) := by
  unfold kimberliteref01_keeps.f keepsB
  cases a <;> cases b <;> by_cases h0 : kind = 0 <;> by_cases h1 : kind = 1 <;> simp [h0, h1]
theorem keepsB_ff (kind : Int) : keepsB kind false false = false := by
  unfold keepsB
  by_cases h0 : kind = 0 <;> by_cases h1 : kind = 1 <;> simp [h0, h1]
end Go.Proofs.Ytningpmoojnomaa.Pr
end
section
namespace Go.Proofs.Ytningpmoojnomaa.Pr
open Go.RowKit Go.Proofs.YtningpmoojnomaaW.PrintWords Go.Proofs.YtningpmoojnomaaW.PrintLast Go.Proofs.YtningpmoojnomaaW.PrintMore
set_option linter.unusedVariables false
set_option linter.unusedSimpArgs false
def keepP (kind : Int) (a b : List S32) (e : Int) : Bool := keepsB kind (memS a e) (memS b e)
theorem drop2 (E : List Int) (i : Nat) (h : i + 1 < E.length) : E.drop i = rd E (i : Int) :: rd E ((i + 1 : Nat) : Int) :: E.drop (i + 2) := by
  rw [dropI E i (by omega), dropI E (i + 1) h]
theorem gen_short (p : Int → Bool) (E : List Int) (cur : Option S32) (h : E.length ≤ 1) : gen p E cur = cur.toList := by
  rcases E with _ | ⟨e, _ | ⟨e', t⟩⟩
  · simp [gen]
  · simp [gen]
  · simp at h
theorem made_l2 (kind : Int) (a b : List S32) (ha : a.length ≤ 1000) (hb : b.length ≤ 1000) (E : List Int) (hE : E.length ≤ 1000000) : ∀ (d i : Nat), E.length - i = d → i ≤ E.length →
    Ev (fun k => kimberliteref01_Made.l2 k kind a b E [] (i : Int)) (gen (keepP kind a b) (E.drop i) none) ∧
    ∀ (p : List S32) (c : S32), p.length + 1 ≤ i → Ev (fun k => kimberliteref01_Made.l2 k kind a b E (p ++ [c]) (i : Int)) (p ++ gen (keepP kind a b) (E.drop i) (some c))
  | d, i, h, hi' => by
    by_cases hi : i + 1 < E.length
    · match d, h with
      | 0, h => omega
      | d + 1, h =>
        obtain ⟨ihn, ihs⟩ := made_l2 kind a b ha hb E hE d (i + 1) (by omega) (by omega)
        have hw := wrap_succ (i := i) (n := E.length) (by omega) (by omega)
        rw [drop2 E i hi]
        rw [dropI E (i + 1) hi] at ihn ihs
        have kp : keepsB kind (memS a (rd E (i : Int))) (memS b (rd E (i : Int))) = keepP kind a b (rd E (i : Int)) := rfl
        constructor
        · refine Ev.step (f := fun k => (kimberliteref01_in.f k a (rd E (i : Int))).bind fun t195 => ((kimberliteref01_in.f k b (rd E (i : Int))).bind fun t197 => ((kimberliteref01_keeps.f kind t195 t197).bind fun t198 => (if t198 = true then kimberliteref01_Made.l2 k kind a b E ([⟨rd E (i : Int), rd E ((i + 1 : Nat) : Int)⟩]) ((i + 1 : Nat) : Int) else kimberliteref01_Made.l2 k kind a b E [] ((i + 1 : Nat) : Int))))) (fun k => ?_) ?_
          · simp only [kimberliteref01_Made.l2]
            rw [hw, if_pos (by omega), if_pos (by omega), if_pos (by omega)]
            simp
            rfl
          · refine Ev.bind (refIn_ev a _ (by omega)) (Ev.bind (refIn_ev b _ (by omega)) ?_)
            show Ev (fun k => (kimberliteref01_keeps.f kind (memS a (rd E (i : Int))) (memS b (rd E (i : Int)))).bind _) _
            rw [keeps_f, kp, gen]
            simp only [Option.bind_some]
            by_cases hk : keepP kind a b (rd E (i : Int)) = true
            · simp only [if_pos hk]
              exact ihs [] _ (by simp)
            · simp only [if_neg hk]
              exact ihn
        · intro p c hp
          have hl := len_last p c (by omega)
          have hlen : (((p ++ [c]).length : Nat) : Int) = (p.length : Int) + 1 := by simp
          refine Ev.step (f := fun k => (kimberliteref01_in.f k a (rd E (i : Int))).bind fun t195 => ((kimberliteref01_in.f k b (rd E (i : Int))).bind fun t197 => ((kimberliteref01_keeps.f kind t195 t197).bind fun t198 => (if t198 = true then (if c.f1 = rd E (i : Int) then kimberliteref01_Made.l2 k kind a b E (p ++ [⟨c.f0, rd E ((i + 1 : Nat) : Int)⟩]) ((i + 1 : Nat) : Int) else kimberliteref01_Made.l2 k kind a b E (p ++ [c] ++ [⟨rd E (i : Int), rd E ((i + 1 : Nat) : Int)⟩]) ((i + 1 : Nat) : Int)) else kimberliteref01_Made.l2 k kind a b E (p ++ [c]) ((i + 1 : Nat) : Int))))) (fun k => ?_) ?_
          · simp only [kimberliteref01_Made.l2]
            rw [hw, if_pos (by omega), if_pos (by omega), if_pos (by omega), hl, rd_last, Int.toNat_natCast, set_last]
            rw [if_pos (show (((p ++ [c]).length : Nat) : Int) > 0 by omega), if_pos (show (0 : Int) ≤ (p.length : Int) by omega), if_pos (show ((p.length : Nat) : Int) < ((p ++ [c]).length : Nat) by omega), if_pos (show (0 : Int) ≤ ((i + 1 : Nat) : Int) by omega), if_pos (show (0 : Int) ≤ ((i + 1 : Nat) : Int) by omega), if_pos (show (p ++ [c]).length < 8796093022208 by omega)]
          · refine Ev.bind (refIn_ev a _ (by omega)) (Ev.bind (refIn_ev b _ (by omega)) ?_)
            show Ev (fun k => (kimberliteref01_keeps.f kind (memS a (rd E (i : Int))) (memS b (rd E (i : Int)))).bind _) _
            rw [keeps_f, kp, gen]
            simp only [Option.bind_some]
            by_cases hk : keepP kind a b (rd E (i : Int)) = true
            · simp only [if_pos hk]
              by_cases hc : c.f1 = rd E (i : Int)
              · simp only [if_pos hc]
                exact ihs p _ (by omega)
              · simp only [if_neg hc]
                have := ihs (p ++ [c]) ⟨rd E (i : Int), rd E ((i + 1 : Nat) : Int)⟩ (by simp; omega)
                rw [List.append_assoc p [c] (gen _ _ _), List.singleton_append] at this
                exact this
            · simp only [if_neg hk]
              exact ihs p c (by omega)
    · have hs : (E.drop i).length ≤ 1 := by rw [List.length_drop]; omega
      have hw : ¬ wrap64 ((i : Int) + 1) < (E.length : Int) := by unfold wrap64; omega
      rw [gen_short _ _ _ hs]
      refine ⟨Ev.step (f := fun _ => some []) (fun k => by simp only [kimberliteref01_Made.l2]; rw [if_neg hw]) (Ev.now _), fun p c hp => ?_⟩
      rw [gen_short _ _ _ hs]
      exact Ev.step (f := fun _ => some (p ++ [c])) (fun k => by simp only [kimberliteref01_Made.l2]; rw [if_neg hw]) (Ev.now _)
/-- The ends of two lists of spans, ascending. -/
def ends2 (a b : List S32) : List Int := endsL (endsL [] a) b
def madeL (kind : Int) (a b : List S32) : List S32 := gen (keepP kind a b) (ends2 a b) none
theorem made_ev (kind : Int) (a b : List S32) (ha : a.length ≤ 1000) (hb : b.length ≤ 1000) : Ev (fun k => kimberliteref01_Made.f k kind a b) (madeL kind a b) := by
  obtain ⟨p1, m1, n1⟩ := endsL_spec a [] List.Pairwise.nil
  obtain ⟨p2, m2, n2⟩ := endsL_spec b _ p1
  have e2 := (made_l2 kind a b ha hb (ends2 a b) (by unfold ends2; simp at n1; omega) _ 0 rfl (by omega)).1
  refine made_l0 kind a b _ ha _ 0 [] rfl List.Pairwise.nil (by simp) (by simp) ?_
  refine made_l1 kind a b _ hb (2 * a.length) (by omega) _ 0 _ rfl p1 (by simpa using n1) (by omega) ?_
  exact e2
/-- WHAT MADE IS: ascending, with the numbers that the kind keeps. -/
theorem made_spec (kind : Int) (a b : List S32) (hv : ∀ s, s ∈ a ∨ s ∈ b → -1099511627776 ≤ s.f0 ∧ s.f0 < s.f1 ∧ s.f1 ≤ 1099511627776) :
    Asc (-1099511627776) (madeL kind a b) ∧ ∀ x, memS (madeL kind a b) x = keepsB kind (memS a x) (memS b x) := by
  obtain ⟨p1, m1, n1⟩ := endsL_spec a [] List.Pairwise.nil
  obtain ⟨p2, m2, n2⟩ := endsL_spec b _ p1
  have hin : ∀ z ∈ ends2 a b, -1099511627776 ≤ z ∧ z ≤ 1099511627776 := fun z hz => by
    rcases (m2 z).1 hz with hz | ⟨s, hs, hz⟩
    · rcases (m1 z).1 hz with hz | ⟨s, hs, hz⟩
      · cases hz
      · have := hv s (.inl hs); rcases hz with rfl | rfl <;> omega
    · have := hv s (.inr hs); rcases hz with rfl | rfl <;> omega
  obtain ⟨ha, hm⟩ := gen_spec (keepP kind a b) (ends2 a b) none (-1099511627776) p2 hin (fun c hc => by cases hc)
  refine ⟨ha, fun x => ?_⟩
  show memS (gen _ _ none) x = _
  rw [hm x]
  have := inP_ends (keepsB kind) (keepsB_ff kind) a b (fun s hs => (hv s hs).2.1) (ends2 a b) p2 (fun s hs => by
    rcases hs with hs | hs
    · exact ⟨(m2 _).2 (.inl ((m1 _).2 (.inr ⟨s, hs, .inl rfl⟩))), (m2 _).2 (.inl ((m1 _).2 (.inr ⟨s, hs, .inr rfl⟩)))⟩
    · exact ⟨(m2 _).2 (.inr ⟨s, hs, .inl rfl⟩), (m2 _).2 (.inr ⟨s, hs, .inr rfl⟩)⟩) x
  simp only [Option.toList_none]
  rw [show memS [] x = false from rfl, Bool.false_or]
  exact this
theorem refList_loop (l : List S32) (hn : l.length ≤ 1000000) : ∀ (d i : Nat), l.length - i = d → Ev (fun k => kimberliteref01_List.l0 k l (i : Int)) (if (l.drop i).any (fun x => !goodS x) then 2 else 0)
  | 0, i, h => by
    rw [List.drop_eq_nil_of_le (by omega)]
    exact Ev.step (f := fun _ => some 0) (fun k => by simp only [kimberliteref01_List.l0]; rw [if_neg (by omega)]) (Ev.now _)
  | d + 1, i, h => by
    have hi : i < l.length := by omega
    rw [drop_cons l i hi, List.any_cons]
    by_cases hg : goodS (l.getD i z32) = true
    · rw [hg]
      have := refList_loop l hn d (i + 1) (by omega)
      simp only [Bool.not_true, Bool.false_or]
      exact Ev.step (fun k => by simp only [kimberliteref01_List.l0]; rw [if_pos (by omega), if_pos (by omega), rd_nat, refGood_f, wrap_succ hi (by omega)]; simp only [Option.bind_some]; rw [if_pos hg]) this
    · rw [Bool.eq_false_iff.2 hg]
      simp only [Bool.not_false, Bool.true_or, if_true]
      exact Ev.step (f := fun _ => some 2) (fun k => by simp only [kimberliteref01_List.l0]; rw [if_pos (by omega), if_pos (by omega), rd_nat, refGood_f]; simp only [Option.bind_some]; rw [if_neg hg]) (Ev.now _)
/-- What is said of a list of spans: 3 too long, 2 not good, 0. -/
def listR (l : List S32) : Int := if l.length > 128 then 3 else if l.any (fun x => !goodS x) then 2 else 0
theorem listed_f (l : List S32) : span_listed.f l = some (listR l) := by
  unfold span_listed.f listR
  by_cases h : l.length > 128
  · rw [if_pos h, if_pos h]
  · rw [if_neg h, if_neg h]
    cases l.any (fun x => !goodS x) <;> rfl
theorem refList_ev (l : List S32) : Ev (fun k => kimberliteref01_List.f k l) (listR l) := by
  unfold kimberliteref01_List.f listR
  by_cases h : l.length > 128
  · rw [if_pos h]
    simp only [if_pos (show (l.length : Int) > 128 by omega)]
    exact Ev.now _
  · rw [if_neg h]
    simp only [if_neg (show ¬ (l.length : Int) > 128 by omega)]
    exact refList_loop l (by omega) _ 0 rfl
theorem listR_good {l : List S32} (h : listR l = 0) : l.length ≤ 128 ∧ ∀ s ∈ l, -1099511627776 ≤ s.f0 ∧ s.f0 < s.f1 ∧ s.f1 ≤ 1099511627776 := by
  unfold listR at h
  by_cases h1 : l.length > 128
  · rw [if_pos h1] at h; omega
  · rw [if_neg h1] at h
    by_cases h2 : l.any (fun x => !goodS x) = true
    · rw [if_pos h2] at h; omega
    · refine ⟨by omega, fun s hs => ?_⟩
      rw [← goodS_iff]
      simp only [List.any_eq_true, Bool.not_eq_true'] at h2
      exact Decidable.byContradiction fun hc => h2 ⟨s, hs, Bool.eq_false_iff.2 hc⟩
/-- OF, OF BOTH. -/
def ofL (l : List S32) : List S32 := madeL 0 l []
def ofR (l : List S32) : List S32 × Int := if listR l = 0 then (ofL l, 0) else ([], listR l)
theorem memS_nil (x : Int) : memS [] x = false := rfl
theorem ofL_spec {l : List S32} (h : listR l = 0) : Asc (-1099511627776) (ofL l) ∧ ∀ x, memS (ofL l) x = memS l x := by
  obtain ⟨ha, hm⟩ := made_spec 0 l [] (fun s hs => by
    rcases hs with hs | hs
    · exact (listR_good h).2 s hs
    · cases hs)
  exact ⟨ha, fun x => by rw [ofL, hm x, memS_nil]; simp [keepsB]⟩
theorem refOf_ev (l : List S32) : Ev (fun k => kimberliteref01_Of.f k l) (ofR l) := by
  unfold kimberliteref01_Of.f ofR
  refine Ev.bind (refList_ev l) ?_
  by_cases h : listR l = 0
  · simp only [if_pos h]
    have := (listR_good h).1
    exact Ev.bind (made_ev 0 l [] (by omega) (by simp)) (Ev.now _)
  · simp only [if_neg h]
    exact Ev.now _
theorem jn_of {l : List S32} (h : listR l = 0) : jn (sortLo l) none = ofL l := by
  obtain ⟨hl, hg⟩ := listR_good h
  obtain ⟨ha, hm⟩ := jn_spec (sortLo l) none (-1099511627776) (sortLo_pairwise l) (fun s hs => hg s ((sortLo_perm l).mem_iff.1 hs)) (fun c hc => by cases hc)
  obtain ⟨ha', hm'⟩ := ofL_spec h
  refine canon _ _ _ _ ha ha' (fun x => ?_)
  rw [hm x, hm' x, memS_perm (sortLo_perm l) x]
  rfl
theorem clone_f {l : List S32} (h : l.length ≤ 128) : clone_Span.f l = some l := by unfold clone_Span.f; rw [if_pos (by omega)]
theorem spanOf_ev (l : List S32) : Ev (fun k => span_Of.f k l) (ofR l) := by
  unfold span_Of.f ofR
  rw [listed_f]
  simp only [Option.bind_some]
  by_cases h : listR l = 0
  · have := (listR_good h).1
    simp only [if_pos h, clone_f this, Option.bind_some]
    have hj := joined_ev (sortLo l) (by rw [sortLo_length]; omega)
    rw [jn_of h] at hj
    exact Ev.bind hj (Ev.now _)
  · simp only [if_neg h]
    exact Ev.now _
end Go.Proofs.Ytningpmoojnomaa.Pr
end
section
namespace Go.Proofs.Ytningpmoojnomaa.Pr
open Go.RowKit Go.ChangeShapes Go.WideShapes Go.Deep Go.Joins Go.Proofs.YtningpmoojnomaaW.PrintWords Go.Proofs.YtningpmoojnomaaW.PrintLast Go.Proofs.YtningpmoojnomaaW.PrintMore
set_option linter.unusedVariables false
set_option linter.unusedSimpArgs false
section
variable {H : Type} {enc : TypeId × Value → H} {W : World}
/-- Both numbers of a span are int64s. -/
def okS (x : S32) : Prop := (Lit.int .i64 x.f0).wf = true ∧ (Lit.int .i64 x.f1).wf = true
set_option maxRecDepth 100000 in
theorem open_spans {a : Option Addr} {len cap : Nat} {d : DataW H} {p : List MemPlace} (h : DataW.Trod enc Try.prog W 0 (fun _ => true) true 22 (.slice a len cap) d p) :
    ∃ l : List S32, l.length = len ∧ l.length ≤ cap ∧ Kd.C k32 W a l.length l ∧ ∀ x ∈ l, okS x := by
  obtain ⟨fuel, hf⟩ := h
  rcases open_slice Try.underlying22 hf with ⟨hcs, _⟩ | ⟨ad, len', cap', m, n, D, Pl, hcs, _, hl, hm, hmm, _, hi⟩
  · simp [Value.cells] at hcs
    obtain ⟨rfl, rfl, rfl⟩ := hcs
    exact ⟨[], rfl, by simp, ⟨rfl, by simp, fun h => absurd h (by simp)⟩, fun x hx => absurd hx (by simp)⟩
  · simp [Value.cells] at hcs
    obtain ⟨rfl, rfl, rfl⟩ := hcs
    have hC : Try.prog.cellsOf 32 = 2 := by kernel_rfl
    have key : ∀ i, i < len → ∃ x : S32, okS x ∧ W.cell? (ad.add (i * 2)) = some (.int .i64 x.f0) ∧ W.cell? (ad.add (i * 2 + 1)) = some (.int .i64 x.f1) := by
      intro i hil
      obtain ⟨cs', hc, ht'⟩ := hi i (by rw [hmm]; simp; omega)
      rw [hC] at hc
      obtain ⟨ys, n', hn', hy, hlen, hyl, hfd⟩ := DataW.trod_struct Try.underlying32 ht'
      obtain ⟨_, hcl, hat⟩ := World.cells?_some hc
      match cs', hcl with
      | [c0, c1], _ =>
        have k3 : Try.prog.cellsOf 3 = 1 := by kernel_rfl
        obtain ⟨y0, hy0⟩ : ∃ y, ys[0]? = some y := ⟨_, List.getElem?_eq_getElem (by rw [hyl]; decide)⟩
        obtain ⟨y1, hy1⟩ : ∃ y, ys[1]? = some y := ⟨_, List.getElem?_eq_getElem (by rw [hyl]; decide)⟩
        have g0 := hfd 0 _ rfl
        have g1 := hfd 1 _ rfl
        dsimp only [List.getElem_toArray, List.getElem_cons_zero, List.getElem_cons_succ] at g0 g1
        rw [k3, hy0] at g0
        rw [k3, hy1] at g1
        simp only [List.drop_zero, List.drop_succ_cons, List.take_succ_cons, List.take_zero] at g0 g1
        obtain ⟨a0, e0, _, w0⟩ := DataW.trod_int Try.underlying3 g0
        obtain ⟨a1, e1, _, w1⟩ := DataW.trod_int Try.underlying3 g1
        simp at e0 e1
        subst e0 e1
        have h0 := hat 0 (by omega)
        have h1 := hat 1 (by omega)
        rw [Deep.add_add] at h0 h1
        exact ⟨⟨a0, a1⟩, ⟨w0, w1⟩, by simpa using h0, by simpa using h1⟩
    obtain ⟨f, hf⟩ := @choose_lt S32 ⟨z32⟩ _ _ key
    refine ⟨(List.range len).map f, by simp, by simpa using hl, ⟨by simp, by simp; simp only [maxLen] at hm; omega, fun _ => ⟨ad, rfl, fun j x hj => ?_⟩⟩, ?_⟩
    · obtain ⟨hjl, hx⟩ := List.getElem?_eq_some_iff.1 hj
      have hjl' : j < len := by simpa using hjl
      simp at hx
      subst hx
      obtain ⟨_, h0, h1⟩ := hf j hjl'
      refine ⟨_, rfl, k32_mk W (f j), fun i u hu => ?_⟩
      match i, hu with
      | 0, hu => simp at hu; subst hu; exact h0
      | 1, hu => simp at hu; subst hu; exact h1
      | i + 2, hu => simp at hu
    · intro x hx
      obtain ⟨j, hj, rfl⟩ := List.mem_map.1 hx
      exact (hf j (by simpa using hj)).1
end
end Go.Proofs.Ytningpmoojnomaa.Pr
end
section
namespace Go.Proofs.Ytningpmoojnomaa.Pr
open Go.RowKit Go.Proofs.YtningpmoojnomaaW.PrintWords Go.Proofs.YtningpmoojnomaaW.PrintLast Go.Proofs.YtningpmoojnomaaW.PrintMore
set_option linter.unusedVariables false
set_option linter.unusedSimpArgs false
theorem validEq (l : List S32) (hn : l.length ≤ 9223372036854775807) : ∃ k b, span_Valid.f k l = some b ∧ kimberliteref01_Valid.f k l = some b := by
  obtain ⟨k, h1, h2⟩ := (ev_both (spanValid_ev l hn) (refValid_ev l hn))
  exact ⟨k, _, h1, h2⟩
set_option maxHeartbeats 8000000 in
set_option maxRecDepth 100000 in
theorem SpanOf_walk {W : World} (a0 : Option Addr) (cap0 : Nat) (l0 : List S32) (c0 : l0.length ≤ cap0) (hr0 : Kd.C k32 W a0 l0.length l0) (w0 : ∀ s ∈ l0, okS s) :
    Calls Try.prog 3 #[.slice a0 l0.length cap0] W fun e w' => e = .returned (.bool true) ∧ Below W.heap.size W w' := by
  have hm : l0.length ≤ 9223372036854775807 := hr0.2.1
  have HR0 := Aside0.mk hr0
  have HC0 := Aside0.mk c0
  clear hr0 c0 w0
  by_cases h140 : l0.length ≤ 140
  · have HF := Aside0.mk (show decide ((l0.length : Int) ≤ 140) = true from decide_eq_true (by omega))
    have HM := Aside0.mk hm
    have HL := Aside0.mk h140
    obtain ⟨k, h1, h2⟩ := ev_both (refOf_ev l0) (spanOf_ev l0)
    obtain ⟨kv, vb, hv1, hv2⟩ := validEq l0 hm
    generalize hq : ofR l0 = q at h1 h2
    obtain ⟨q1, q2⟩ := q
    have HA := Aside0.mk h1
    have HB2 := Aside0.mk h2
    have HV1 := Aside0.mk hv1
    have HV2 := Aside0.mk hv2
    clear hm h140 h1 h2 hv1 hv2 hq
    go_enter Try.func3, Try.ntmps3
    go_wp2_with (go_at_call 15; refine (few_at _ _ l0 _ HR0.out HC0.out true HF.out).mono ?_; rintro e w1 ⟨rfl, hb1⟩)
    have HB := Aside0.mk hb1.below
    clear hb1
    go_wp2_with (go_at_call 17; refine (own_full _ _ l0 _ (Kd.C_below HR0.out HB.out) HL.out).mono ?_; rintro e w2 ⟨b, c, rfl, hf2, hb2⟩)
    have HB1 := Aside0.mk (below_then HB.out HB.out.size hb2)
    have HF2 := Aside0.mk hf2
    clear hb2 hf2 HB
    go_wp2_with (go_at_call 18; refine (kimberliteref01_Of.calls k _ _ l0 q1 q2 _ (Kd.C_below HR0.out HB1.out) HC0.out HA.out).mono ?_; rintro e w3 ⟨v3, rfl, hr3, hb3⟩; obtain ⟨A3, c3, e3⟩ := Kd.R_slice hr3; subst e3)
    have HB3 := Aside0.mk (below_then HB1.out HB1.out.size hb3)
    have HF3 := Aside0.mk (HF2.out.below hb3)
    have HW := Aside0.mk (Kd.R_reads' hr3).2
    clear hb3 hr3 HB1 HF2
    go_loopg [6] 2 (fun gg v6 wr => ∃ kk : Nat, kk ≤ 2 ∧ 2 - kk ≤ gg ∧ v6 = .int .i64 kk ∧ Aside0 (Below w3.heap.size w3 wr))
    case atStart => exact ⟨0, Nat.zero_le _, by omega, rfl, ⟨Below.refl _ _⟩⟩
    case round =>
      obtain ⟨kk, hkk, hg, rfl, HBr⟩ := hrel
      have HCC := Aside0.mk (HF3.out.below HBr.out)
      by_cases hlt : kk < 2
      · have hltz : (kk : Int) < 2 := by omega
        go_wp2_with (go_at_call 19; refine (span_Of.calls k _ _ l0 q1 q2 _ HCC.out.reads (Nat.le_of_succ_le HCC.out.cap) HB2.out).mono ?_; rintro e w4 ⟨v4, rfl, hr4, hb4⟩; obtain ⟨A4, c4, e4⟩ := Kd.R_slice hr4; subst e4)
        have HB4 := Aside0.mk (below_then HBr.out HBr.out.size hb4)
        have HR4 := Aside0.mk (Kd.R_lower hr4 HBr.out.size)
        clear hr4 hb4
        go_wp2_with (go_at_call 20; refine (same_at _ _ _ _ q1 _ (Kd.R_reads' HR4.out).2.2 (Kd.R_reads' HR4.out).2.1 (Kd.C_below HW.out.2 HB4.out) HW.out.1).mono ?_; rintro e w5 ⟨rfl, hb5⟩)
        have HB5 := Aside0.mk (below_then HB4.out HB4.out.size hb5.below)
        have HR5 := Aside0.mk (Kd.R_below HR4.out hb5.below)
        clear hb5
        go_wp2_with (go_at_call 21; refine (kept_full _ _ _ _ _ l0 _ (HF3.out.below HB5.out) (Kd.C_below (Kd.C_below HR0.out HB3.out) HB5.out) HC0.out HL.out).mono ?_; rintro e w6 ⟨rfl, hb6⟩)
        have HB6 := Aside0.mk (below_then HB5.out HB5.out.size hb6)
        have HR6 := Aside0.mk (Kd.R_below HR5.out hb6)
        clear hb6
        go_wp2_with (go_at_call 22; refine (spoil_any _ q1 w3 _ HB6.out HR6.out).mono ?_; rintro e w7 ⟨rfl, hb7⟩)
        go_roundg (2 - (kk + 1))
        case measure => omega
        case rel => exact ⟨kk + 1, by omega, by omega, by go_num, ⟨hb7⟩⟩
      · have hltz : ¬ (kk : Int) < 2 := by omega
        go_wp2_with (go_at_call 23; refine (span_Valid.calls kv _ _ l0 vb _ HCC.out.reads (Nat.le_of_succ_le HCC.out.cap) HV1.out).mono ?_; rintro e w4 ⟨rfl, hb4⟩)
        have HB4 := Aside0.mk (below_then (below_then HB3.out HB3.out.size HBr.out) (Nat.le_trans HB3.out.size HBr.out.size) hb4)
        clear hb4
        go_wp2_with (go_at_call 24; refine (kimberliteref01_Valid.calls kv _ _ l0 vb _ (Kd.C_below HR0.out HB4.out) HC0.out HV2.out).mono ?_; rintro e w5 ⟨rfl, hb5⟩)
        have HB5 := Aside0.mk (below_then HB4.out HB4.out.size hb5)
        clear hb5
        go_wp2_with (go_at_call 16; refine (alive_at _).mono ?_; rintro e w6 ⟨rfl, hb6⟩)
        go_ret
        exact ⟨rfl, below_then HB5.out HB5.out.size hb6⟩
  · have HF := Aside0.mk (show decide ((l0.length : Int) ≤ 140) = false from decide_eq_false (by omega))
    clear h140
    go_enter Try.func3, Try.ntmps3
    go_wp2_with (go_at_call 15; refine (few_at _ _ l0 _ HR0.out HC0.out false HF.out).mono ?_; rintro e w1 ⟨rfl, hb1⟩)
    go_wp2_with (go_at_call 16; refine (alive_at _).mono ?_; rintro e w2 ⟨rfl, hb2⟩)
    go_ret
    exact ⟨rfl, below_then hb1.below hb1.below.size hb2⟩
end Go.Proofs.Ytningpmoojnomaa.Pr
end
section
namespace Go.Proofs.Ytningpmoojnomaa.spanOf
open Go.ChangeShapes Go.WideShapes Go.ChangeAt Go.RowKit Go.Proofs.Ytningpmoojnomaa.Pr
set_option linter.unusedVariables false
theorem own : ownKnob Try.prog.godebug = none := by kernel_rfl
theorem laidOut : laidOutB Try.prog = true := by kernel_rfl
set_option maxRecDepth 100000 in
theorem lifted (os : Os) (started : os.Started) (H : Type) (enc : TypeId × Value → H) :
    ReturnsInHanded {} Try.checked os 3 .any (Rows.spanOfSpec.pre6 enc Try.prog Try.f3 Rows.spanOfRow.domain false) (Rows.spanOfSpec.post enc Try.prog Try.f3 false true false false) := by
  refine returnsInHanded_of_change (C := Try.checked) own started (by kernel_rfl) Try.func3
    (ChangeSpec.witness6 (enc := enc) (C := Try.checked) false ⟨#[], #[.slice none 0 0], []⟩ 8 (by kernel_rfl) (by kernel_rfl) (by kernel_rfl) (by kernel_rfl)) ?_
  intro W base args ds gs before hval0 hW hcnd _
  have hval : ∀ (j : Nat) t v, Try.f3.params[j]? = some t → args[j]? = some v → Value.okWide Try.prog W .any base t v := hval0
  have hW' := hW
  obtain ⟨p, q, hA0, hV, rfl, hfz, hnd⟩ := hW
  have hA : DataW.TrodAll enc Try.prog W 0 (fun _ => true) true Try.f3.params.toList args.toList ds p := hA0
  rw [Try.params3] at hA hval
  obtain ⟨v0, vs0, d0, ds0, p0, q0, hargs, rfl, rfl, h0, r0⟩ := trodAll_cons hA
  obtain ⟨rfl, rfl, rfl⟩ := trodAll_nil r0
  obtain rfl : args = #[v0] := by cases args; simp_all
  obtain ⟨rfl, rfl⟩ := trodVars_none hV
  have k0 := h0
  have lt0 : ∀ x ∈ p0, x.block < W.heap.size := by obtain ⟨m, hm⟩ := k0; exact DataW.trod_lt m _ _ _ hm
  obtain ⟨a0, len0, cap0, rfl⟩ := okWide_slice Try.underlying22 (hval 0 22 v0 rfl rfl)
  obtain ⟨l0, rfl, c0, hr0, w0⟩ := open_spans h0
  clear hA0 hval0
  try simp only [List.append_nil] at hW'
  refine (SpanOf_walk a0 cap0 l0 c0 hr0 w0).mono fun e W' ⟨he, bel⟩ => ?_
  subst he
  exact ⟨_, rfl, _, _, _, [], _, [], hW', trodAll_mk1 (shut_bool Try.underlying4 _), (trodAll_cons_mk (Below.trod laidOut (by kernel_rfl) (of_decide_eq_true (by kernel_rfl)) k0 bel lt0) trodAll_mk0), rfl, bel.frame _, fun h => by cases h⟩
theorem over : Rows.spanOfRow.holds Try.pinned (OpenSpec.ofChange Rows.spanOfSpec) :=
  OpenClaim.holds_of_wide 3 Try.f3 rfl rfl rfl rfl rfl rfl rfl ⟨rfl, rfl, rfl, rfl, rfl⟩ rfl rfl rfl rfl rfl (by kernel_rfl) Try.func3 (by kernel_rfl)
    (of_decide_eq_true (by kernel_rfl)) (by unfold Func.isWrapper; first | (rw [if_pos (by decide +kernel)]; kernel_rfl) | (rw [if_neg (by decide +kernel)]; exact ⟨rfl, rfl⟩))
    (fun os started H enc _ => lifted os started H enc)
theorem proved : Rows.SpanOfSaid := over
end Go.Proofs.Ytningpmoojnomaa.spanOf
namespace Go.Proofs.Ytningpmoojnomaa
/-- The row, under a short name, for the claim. -/
theorem spanOf_holds : Rows.SpanOfSaid := spanOf.proved
end Go.Proofs.Ytningpmoojnomaa
end
