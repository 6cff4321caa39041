/- What the proof of the law needs, trimmed and merged by wip/pack.py out of the texts YtmomcbhgggggnaaGreatDoorPrr, YtmomcbhgggggnaaGreatDoorPrs, YtmomcbhgggggnaaGreatDoorWalkSpanTexts, YtmomcbhgggggnaaGreatDoorArgs, YtmomcbhgggggnaaGreatDoorLad, YtmomcbhgggggnaaGreatDoorRowSpanTexts. No condition. -/
import Derived.Deep.Slices
import Derived.Deep.Fields
import Derived.ChangeSame
import Derived.Lib.SmallJoins
import Derived.OpenShut
import Derived.Test.YtmomcbhgggggnaaGreatDoorRows
import Derived.HandedShaped
import Derived.LaidMore
import Derived.Lib.LaidTab
import Derived.Deep.DeepWitnessRowRef
import Derived.Test.YtmomcbhgggggnaaGreatDoorCards
import Derived.Test.YtmomcbhgggggnaaGreatDoorTie
import Derived.WalkKit
import Derived.ProofKit
import Derived.ShutString
import Derived.ChangeMaps5
import Derived.ChangeOld
import Derived.Below
import Derived.SizedLaws
import Derived.Deep.DeepHandedRow
import Derived.Test.YtmomcbhgggggnaaGreatDoorKSpanTexts0
import Derived.Test.YtmomcbhgggggnaaGreatDoorKSpanTexts1
import Derived.Test.YtmomcbhgggggnaaGreatDoorKSpanTexts2
import Derived.Test.YtmomcbhgggggnaaGreatDoorKSpanTexts3
import Derived.Test.YtmomcbhgggggnaaGreatDoorKSpanTexts4
import Derived.Test.YtmomcbhgggggnaaGreatDoorKSpanTexts5
import Derived.Test.YtmomcbhgggggnaaGreatDoorKSpanTexts6
import Derived.Test.YtmomcbhgggggnaaGreatDoorKSpanTexts7
section
namespace Go.Proofs.YtmomcbhgggggnaaGreatDoor.Pr
open Go.RowKit Go.Lib Go.Proofs.YtmomcbhgggggnaaGreatDoorW.PrintWords Go.Proofs.YtmomcbhgggggnaaGreatDoorW.PrintLast Go.Proofs.YtmomcbhgggggnaaGreatDoorW.PrintMore
set_option linter.unusedVariables false
set_option linter.unusedSimpArgs false
def pieceR (p : List UInt8) (cnt : Nat) : Option S41 :=
  if index p [46, 46] < 0 then none else if 128 ≤ cnt then none else
    if (numR (p.take (index p [46, 46]).toNat)).2 = true ∧ (numR (p.drop ((index p [46, 46]).toNat + 2))).2 = true then some ⟨(numR (p.take (index p [46, 46]).toNat)).1, (numR (p.drop ((index p [46, 46]).toNat + 2))).1⟩ else none
def piecesR : List (List UInt8) → List S41 → Option (List S41)
  | [], out => some out
  | p :: t, out => match pieceR p out.length with
    | none => none
    | some q => piecesR t (out ++ [q])
theorem split_none {l : List UInt8} (h : index l [32] = -1) : split l [32] = [l] := by
  unfold split
  rw [count_miss h]
  rfl
theorem split_some {l : List UInt8} {i : Nat} (h : index l [32] = (i : Int)) : split l [32] = l.take i :: split (l.drop (i + 1)) [32] := by
  unfold split
  rw [count_hit (by simp) h, Nat.add_comm 1]
  show (if index l [32] == -1 then [l] else l.take ((index l [32]).toNat + 0) :: splitK [32] 0 (count (l.drop (i + [(32 : UInt8)].length)) [32]) (l.drop ((index l [32]).toNat + [(32 : UInt8)].length))) = _
  rw [if_neg (by rw [h, beq_iff_eq]; omega), h, Int.toNat_natCast]
  rfl
abbrev PR := List S41 × Int
theorem rp_bad6 (s : ByteArray) (out : List S41) (fr i a b : Int) : Ev (fun k => kimberliteref01_Parse.j6 k s out fr i a b true) ([], 5) := by
  refine Ev.step (f := fun _ => some ([], 5)) (fun k => ?_) (Ev.now _)
  simp only [kimberliteref01_Parse.j6]
  rw [if_pos trivial]
theorem rp_bad5 (s : ByteArray) (out : List S41) (fr i : Int) (p : ByteArray) (x : Int) : Ev (fun k => kimberliteref01_Parse.j5 k s out fr i p x true) ([], 5) := by
  refine Ev.step (f := fun _ => some ([], 5)) (fun k => ?_) (Ev.now _)
  simp only [kimberliteref01_Parse.j5]
  rw [if_pos trivial]
theorem rp_fin (s : ByteArray) (out : List S41) (fr : Int) (i : Nat) (p : List UInt8) (x9 : Int) (R : PR) (hi : i ≤ 100000000) (ho : out.length ≤ 100000000) (hp : p.length ≤ 100000000)
    (h : match pieceR p out.length with | none => R = ([], 5) | some q => Ev (fun k => kimberliteref01_Parse.l0 k s (out ++ [q]) fr ((i + 1 : Nat) : Int)) R) :
    Ev (fun k => kimberliteref01_Parse.j3 k s out fr (i : Int) (bts p) (index p [46, 46]) x9 false) R := by
  unfold pieceR at h
  by_cases h0 : index p [46, 46] < 0
  · rw [if_pos h0] at h
    obtain rfl : R = ([], 5) := h
    refine Ev.step (fun k => ?_) (rp_bad5 s out fr i (bts p) (index p [46, 46]))
    simp only [kimberliteref01_Parse.j3]
    rw [if_neg (by simp), if_pos h0]
  · rw [if_neg h0] at h
    by_cases h1 : 128 ≤ out.length
    · rw [if_pos h1] at h
      obtain rfl : R = ([], 5) := h
      refine Ev.step (fun k => ?_) (rp_bad5 s out fr i (bts p) (index p [46, 46]))
      simp only [kimberliteref01_Parse.j3]
      rw [if_neg (by simp), if_neg h0, decide_eq_true (by omega)]
    · rw [if_neg h1] at h
      have hroom := index_room p [46, 46] (by omega)
      obtain ⟨x, hx⟩ := Int.eq_ofNat_of_zero_le (show 0 ≤ index p [46, 46] by omega)
      rw [hx, Int.toNat_natCast] at h
      rw [hx] at hroom h0 ⊢
      have hr2 : x + 2 ≤ p.length := by simp at hroom; omega
      have e2 : wrap64 ((x : Int) + 2) = ((x + 2 : Nat) : Int) := by unfold wrap64; omega
      have e1 : wrap64 ((i : Int) + 1) = ((i + 1 : Nat) : Int) := by unfold wrap64; omega
      have x1 : (bts p).extract 0 x = bts (p.take x) := by rw [bts_ext]; rfl
      have x2 : (bts p).extract (x + 2) (bts p).size = bts (p.drop (x + 2)) := by
        rw [bts_ext, bts_size, List.take_of_length_le (by rw [List.length_drop]; omega)]
      have n1 := number_ev (p.take x)
      have n2 := number_ev (p.drop (x + 2))
      have j6 : Ev (fun k => if (numR (p.take x)).2 = true then (kimberliteref01_Parse.j6 k s out fr (i : Int) (numR (p.take x)).1 (numR (p.drop (x + 2))).1 (!(numR (p.drop (x + 2))).2)) else (kimberliteref01_Parse.j6 k s out fr (i : Int) (numR (p.take x)).1 (numR (p.drop (x + 2))).1 true)) R := by
        cases ha : (numR (p.take x)).2 with
        | false =>
          rw [if_neg (by rw [ha]; simp)] at h
          obtain rfl : R = ([], 5) := h
          exact Ev.congr (fun k => if_neg (by simp)) (rp_bad6 _ _ _ _ _ _)
        | true =>
          refine Ev.congr (fun k => if_pos rfl) ?_
          cases hb : (numR (p.drop (x + 2))).2 with
          | false =>
            rw [if_neg (by rw [hb]; simp)] at h
            obtain rfl : R = ([], 5) := h
            exact rp_bad6 _ _ _ _ _ _
          | true =>
            rw [if_pos ⟨ha, hb⟩] at h
            simp only at h
            refine Ev.step (fun k => ?_) h
            simp only [kimberliteref01_Parse.j6]
            rw [if_neg (by simp), if_pos (by omega), e1]
      have j5 : Ev (fun k => kimberliteref01_Parse.j5 k s out fr (i : Int) (bts p) (x : Int) false) R := by
        have hb := Ev.bind n1 (f := fun k bt134 => (if 0 ≤ (wrap64 ((x : Int) + 2)) then (if (wrap64 ((x : Int) + 2)) ≤ ((bts p).size : Int) then ((kimberliteref01_Number.f k ((bts p).extract ((wrap64 ((x : Int) + 2)) : Int).toNat (bts p).size)).bind fun bt136 => (if bt134.2 = true then (kimberliteref01_Parse.j6 k s out fr (i : Int) bt134.1 bt136.1 (!bt136.2)) else (kimberliteref01_Parse.j6 k s out fr (i : Int) bt134.1 bt136.1 true))) else (none)) else (none))) (r := R) (by
          rw [e2, Int.toNat_natCast, x2]
          exact Ev.congr (fun k => if_pos (by omega)) (Ev.congr (fun k => if_pos (by rw [bts_size]; omega)) (Ev.bind n2 j6)))
        refine Ev.step (fun k => ?_) hb
        simp only [kimberliteref01_Parse.j5]
        rw [if_neg (by simp), if_pos (by omega), if_pos (by rw [bts_size]; omega), Int.toNat_natCast, x1]
      refine Ev.step (fun k => ?_) j5
      simp only [kimberliteref01_Parse.j3]
      rw [if_neg (by simp), if_neg (by omega), decide_eq_false (by omega)]
theorem occ_end (p : List UInt8) (j : Nat) (h : p.length ≤ j + 1) : occAt p [46, 46] j = false := by
  unfold occAt
  have : (p.drop j).length ≤ 1 := by rw [List.length_drop]; omega
  match p.drop j, this with
  | [], _ => rfl
  | [b], _ => simp [List.isPrefixOf]
theorem occ_at (p : List UInt8) (j : Nat) (h : j + 1 < p.length) : occAt p [46, 46] j = (p[j] == 46 && p[j + 1] == 46) := by
  unfold occAt
  rw [List.drop_eq_getElem_cons (show j < p.length by omega), List.drop_eq_getElem_cons h]
  simp only [List.isPrefixOf, Bool.and_true]
  rw [Bool.beq_comm (a := (46 : UInt8)), Bool.beq_comm (a := (46 : UInt8))]
theorem bt_is (p : List UInt8) (j : Nat) (h : j < p.length) (c : UInt8) : (bt (bts p) (j : Int) = (c.toNat : Int)) ↔ p[j] = c := by
  rw [bt_bts p j h]
  constructor
  · intro e
    exact UInt8.toNat_inj.1 (by omega)
  · intro e
    rw [e]
theorem rp_dots (s : ByteArray) (out : List S41) (fr i : Int) (p : List UInt8) (hp : p.length ≤ 100000000) (R : PR) (hK : ∀ x9, Ev (fun k => kimberliteref01_Parse.j3 k s out fr i (bts p) (index p [46, 46]) x9 false) R) :
    ∀ d x : Nat, x + d = p.length → (∀ j, j < x → occAt p [46, 46] j = false) → Ev (fun k => kimberliteref01_Parse.l1 k s out fr i (bts p) (-1) (x : Int)) R
  | 0, x, hx, hno => by
    have e : index p [46, 46] = -1 := index_none fun j hj => by
      by_cases h : j < x
      · exact hno j h
      · exact occ_end p j (by omega)
    have h := hK (x : Int)
    rw [e] at h
    have e1 : wrap64 ((x : Int) + 1) = ((x + 1 : Nat) : Int) := by unfold wrap64; omega
    refine Ev.step (fun k => ?_) h
    simp only [kimberliteref01_Parse.l1]
    rw [e1, if_neg (by rw [bts_size]; omega)]
  | d + 1, x, hx, hno => by
    have e1 : wrap64 ((x : Int) + 1) = ((x + 1 : Nat) : Int) := by unfold wrap64; omega
    by_cases h1 : x + 1 < p.length
    · have ho := occ_at p x h1
      cases hc : occAt p [46, 46] x with
      | true =>
        have e : index p [46, 46] = (x : Int) := index_first (by omega) hc hno
        rw [hc] at ho
        have ho2 := ho.symm
        rw [Bool.and_eq_true, beq_iff_eq, beq_iff_eq] at ho2
        have b1 := (bt_is p x (by omega) 46).2 ho2.1
        have b2 := (bt_is p (x + 1) h1 46).2 ho2.2
        have h := hK ((x + 1 : Nat) : Int)
        rw [e] at h
        have l1 : Ev (fun k => kimberliteref01_Parse.l1 k s out fr i (bts p) (x : Int) ((x + 1 : Nat) : Int)) R := by
          refine Ev.step (fun k => ?_) h
          simp only [kimberliteref01_Parse.l1]
          rw [decide_eq_false (show ¬(x : Int) < 0 by omega)]
          split <;> rfl
        have j4 : Ev (fun k => kimberliteref01_Parse.j4 k s out fr i (bts p) (-1) (x : Int) true) R := by
          refine Ev.step (fun k => ?_) l1
          simp only [kimberliteref01_Parse.j4]
          rw [if_pos trivial, e1]
        have j3 : Ev (fun k => kimberliteref01_Parse.j3 k s out fr i (bts p) (-1) (x : Int) true) R := by
          refine Ev.step (fun k => ?_) j4
          simp only [kimberliteref01_Parse.j3]
          have b1' : bt (bts p) (x : Int) = 46 := b1
          have b2' : bt (bts p) ((x + 1 : Nat) : Int) = 46 := b2
          rw [if_pos trivial, if_pos (by omega), if_pos (by rw [bts_size]; omega), if_pos b1', e1, if_pos (by omega), if_pos (by rw [bts_size]; omega), b2']
          rfl
        refine Ev.step (fun k => ?_) j3
        simp only [kimberliteref01_Parse.l1]
        rw [e1, if_pos (by rw [bts_size]; omega)]
        rfl
      | false =>
        have ih := rp_dots s out fr i p hp R hK d (x + 1) (by omega) (fun j hj => by
          by_cases h : j < x
          · exact hno j h
          · obtain rfl : j = x := by omega
            exact hc)
        have j4 : Ev (fun k => kimberliteref01_Parse.j4 k s out fr i (bts p) (-1) (x : Int) false) R := by
          refine Ev.step (fun k => ?_) ih
          simp only [kimberliteref01_Parse.j4]
          rw [if_neg (by simp), e1]
        have j3 : Ev (fun k => kimberliteref01_Parse.j3 k s out fr i (bts p) (-1) (x : Int) true) R := by
          refine Ev.step (fun k => ?_) j4
          simp only [kimberliteref01_Parse.j3]
          rw [if_pos trivial, if_pos (by omega), if_pos (by rw [bts_size]; omega)]
          by_cases hb : bt (bts p) (x : Int) = 46
          · have b1 : p[x] = 46 := (bt_is p x (by omega) 46).1 hb
            rw [hc, b1] at ho
            have b2 : ¬bt (bts p) ((x + 1 : Nat) : Int) = 46 := fun h => by
              have := (bt_is p (x + 1) h1 46).1 h
              rw [this] at ho
              simp at ho
            rw [if_pos hb, e1, if_pos (by omega), if_pos (by rw [bts_size]; omega), beq_eq_false_iff_ne.2 b2]
          · rw [if_neg hb]
        refine Ev.step (fun k => ?_) j3
        simp only [kimberliteref01_Parse.l1]
        rw [e1, if_pos (by rw [bts_size]; omega)]
        rfl
    · have e : index p [46, 46] = -1 := index_none fun j hj => by
        by_cases h : j < x
        · exact hno j h
        · exact occ_end p j (by omega)
      have h := hK (x : Int)
      rw [e] at h
      refine Ev.step (fun k => ?_) h
      simp only [kimberliteref01_Parse.l1]
      rw [e1, if_neg (by rw [bts_size]; omega)]
theorem rp_scan (l : List UInt8) (hl : l.length ≤ 100000000) (out : List S41) (fr : Int) (stop f : Nat) (hs : stop ≤ l.length) (R : PR) (hK : Ev (fun k => kimberliteref01_Parse.j1 k (bts l) out fr (stop : Int) false) R) (hno : ∀ j (h : j < l.length), f ≤ j → j < stop → l[j] ≠ 32) (hst : ∀ h : stop < l.length, l[stop] = 32) :
    ∀ d i : Nat, i + d = stop → f ≤ i → Ev (fun k => kimberliteref01_Parse.l0 k (bts l) out fr (i : Int)) R
  | 0, i, hi, hf => by
    obtain rfl : i = stop := by omega
    refine Ev.step (fun k => ?_) hK
    simp only [kimberliteref01_Parse.l0]
    rw [if_pos (by rw [bts_size]; omega)]
    by_cases h : i < l.length
    · have hb : bt (bts l) (i : Int) = 32 := (bt_is l i h 32).2 (hst h)
      rw [if_pos (by rw [bts_size]; omega), if_pos (by omega), hb]
      rfl
    · rw [if_neg (by rw [bts_size]; omega)]
  | d + 1, i, hi, hf => by
    have ih := rp_scan l hl out fr stop f hs R hK hno hst d (i + 1) (by omega) (by omega)
    have h : i < l.length := by omega
    have e1 : wrap64 ((i : Int) + 1) = ((i + 1 : Nat) : Int) := by unfold wrap64; omega
    have hb : ¬bt (bts l) (i : Int) = 32 := fun e => hno i h hf (by omega) ((bt_is l i h 32).1 e)
    have j1 : Ev (fun k => kimberliteref01_Parse.j1 k (bts l) out fr (i : Int) true) R := by
      refine Ev.step (fun k => ?_) ih
      simp only [kimberliteref01_Parse.j1]
      rw [if_pos trivial, e1]
    refine Ev.step (fun k => ?_) j1
    simp only [kimberliteref01_Parse.l0]
    rw [if_pos (by rw [bts_size]; omega), if_pos (by rw [bts_size]; omega), if_pos (by omega), bne_iff_ne.2 hb]
/-- One piece, from its beginning to what comes behind it. -/
theorem rp_piece (l : List UInt8) (hl : l.length ≤ 100000000) (out : List S41) (fr stop : Nat) (h1 : fr ≤ stop) (hs : stop ≤ l.length) (ho : out.length ≤ 100000000) (R : PR) (hno : ∀ j (h : j < l.length), fr ≤ j → j < stop → l[j] ≠ 32) (hst : ∀ h : stop < l.length, l[stop] = 32)
    (h : match pieceR ((l.drop fr).take (stop - fr)) out.length with | none => R = ([], 5) | some q => Ev (fun k => kimberliteref01_Parse.l0 k (bts l) (out ++ [q]) ((stop + 1 : Nat) : Int) ((stop + 1 : Nat) : Int)) R) :
    Ev (fun k => kimberliteref01_Parse.l0 k (bts l) out (fr : Int) (fr : Int)) R := by
  have hp : ((l.drop fr).take (stop - fr)).length ≤ 100000000 := by rw [List.length_take, List.length_drop]; omega
  have e1 : wrap64 ((stop : Int) + 1) = ((stop + 1 : Nat) : Int) := by unfold wrap64; omega
  refine rp_scan l hl out (fr : Int) stop fr hs R ?_ hno hst (stop - fr) fr (by omega) (Nat.le_refl _)
  have hd := rp_dots (bts l) out ((stop + 1 : Nat) : Int) (stop : Int) ((l.drop fr).take (stop - fr)) hp R (fun x9 => rp_fin (bts l) out _ stop _ x9 R (by omega) ho hp h) _ 0 (Nat.zero_add _) (fun j hj => absurd hj (Nat.not_lt_zero _))
  refine Ev.step (fun k => ?_) hd
  simp only [kimberliteref01_Parse.j1]
  rw [if_neg (by simp), if_pos (by omega), if_pos (by omega), if_pos (by rw [bts_size]; omega), Int.toNat_natCast, Int.toNat_natCast, bts_ext, e1]
  rfl
end Go.Proofs.YtmomcbhgggggnaaGreatDoor.Pr
end
section
namespace Go.Proofs.YtmomcbhgggggnaaGreatDoor.Pr
open Go.RowKit Go.Lib Go.Proofs.YtmomcbhgggggnaaGreatDoorW.PrintWords Go.Proofs.YtmomcbhgggggnaaGreatDoorW.PrintLast Go.Proofs.YtmomcbhgggggnaaGreatDoorW.PrintMore
set_option linter.unusedVariables false
set_option linter.unusedSimpArgs false
theorem occ_one (l : List UInt8) (j : Nat) (h : j < l.length) : occAt l [32] j = (l[j] == 32) := by
  unfold occAt
  rw [List.drop_eq_getElem_cons h]
  simp only [List.isPrefixOf, Bool.and_true]
  rw [Bool.beq_comm (a := (32 : UInt8))]
theorem rp_main (l : List UInt8) (hl : l.length ≤ 1000000) : ∀ (n fr : Nat) (out : List S41) (R : PR), l.length + 1 - fr ≤ n → fr ≤ l.length → out.length ≤ fr →
    (match piecesR (split (l.drop fr) [32]) out with | none => R = ([], 5) | some o => Ev (fun k => kimberliteref01_Parse.l0 k (bts l) o ((l.length + 1 : Nat) : Int) ((l.length + 1 : Nat) : Int)) R) →
    Ev (fun k => kimberliteref01_Parse.l0 k (bts l) out (fr : Int) (fr : Int)) R
  | 0, fr, out, R, hn, hf, ho, h => by omega
  | n + 1, fr, out, R, hn, hf, ho, h => by
    rcases index_spec (l.drop fr) [32] with ⟨hi, hno⟩ | ⟨i, hi, hil, hocc, hfirst⟩
    · rw [split_none hi] at h
      refine rp_piece l (by omega) out fr l.length hf (Nat.le_refl _) (by omega) R (fun j hj h1 h2 e => ?_) (fun h => absurd h (Nat.lt_irrefl _)) ?_
      · have h3 := hno (j - fr) (by rw [List.length_drop]; omega)
        rw [occ_one _ _ (by rw [List.length_drop]; omega), List.getElem_drop] at h3
        simp only [show fr + (j - fr) = j by omega, e] at h3
        simp at h3
      · rw [List.take_of_length_le (by rw [List.length_drop]; omega)]
        simp only [piecesR] at h
        cases hq : pieceR (l.drop fr) out.length with
        | none =>
          rw [hq] at h
          exact h
        | some q =>
          rw [hq] at h
          exact h
    · rw [split_some hi] at h
      have hlt : i < (l.drop fr).length := by
        apply Classical.byContradiction
        intro hh
        have hi2 : i = (l.drop fr).length := by omega
        have e : occAt (l.drop fr) [32] i = false := by
          unfold occAt
          rw [hi2, List.drop_length]
          rfl
        rw [e] at hocc
        cases hocc
      have hlf : fr + i < l.length := by rw [List.length_drop] at hlt; omega
      have hat : l[fr + i] = 32 := by
        rw [occ_one _ _ hlt, List.getElem_drop, beq_iff_eq] at hocc
        exact hocc
      refine rp_piece l (by omega) out fr (fr + i) (by omega) (by omega) (by omega) R (fun j hj h1 h2 e => ?_) (fun _ => hat) ?_
      · have h3 := hfirst (j - fr) (by omega)
        rw [occ_one _ _ (by rw [List.length_drop]; omega), List.getElem_drop] at h3
        simp only [show fr + (j - fr) = j by omega, e] at h3
        simp at h3
      · rw [show fr + i - fr = i by omega]
        simp only [piecesR] at h
        cases hq : pieceR ((l.drop fr).take i) out.length with
        | none =>
          rw [hq] at h
          exact h
        | some q =>
          rw [hq] at h
          rw [List.drop_drop, show fr + (i + 1) = fr + i + 1 by omega] at h
          exact rp_main l hl n (fr + i + 1) (out ++ [q]) R (by omega) (by omega) (by rw [List.length_append, List.length_singleton]; omega) h
theorem rp_end (l : List UInt8) (hl : l.length ≤ 1000000) (o : List S41) (ho : o.length ≤ 100000000) : (Canon (bts l) o ∧ Ev (fun k => kimberliteref01_Parse.l0 k (bts l) o ((l.length + 1 : Nat) : Int) ((l.length + 1 : Nat) : Int)) (o, 0)) ∨ (¬Canon (bts l) o ∧ Ev (fun k => kimberliteref01_Parse.l0 k (bts l) o ((l.length + 1 : Nat) : Int) ((l.length + 1 : Nat) : Int)) ([], 5)) := by
  have first : ∀ (R : PR), Ev (fun k => if (textR o).2 = 0 then (kimberliteref01_Parse.j7 k o ((textR o).1.toList != (bts l).toList)) else (kimberliteref01_Parse.j7 k o true)) R → Ev (fun k => kimberliteref01_Parse.l0 k (bts l) o ((l.length + 1 : Nat) : Int) ((l.length + 1 : Nat) : Int)) R := fun R h => by
    refine Ev.step (fun k => ?_) (Ev.bind (rtext_ev o (by omega)) (f := fun k (bt141 : ByteArray × Int) => if bt141.2 = 0 then (kimberliteref01_Parse.j7 k o (bt141.1.toList != (bts l).toList)) else (kimberliteref01_Parse.j7 k o true)) h)
    simp only [kimberliteref01_Parse.l0]
    rw [if_neg (by rw [bts_size]; omega)]
  have bad : Ev (fun k => kimberliteref01_Parse.j7 k o true) ([], 5) := by
    refine Ev.step (f := fun _ => some ([], 5)) (fun k => ?_) (Ev.now _)
    simp only [kimberliteref01_Parse.j7]
    rw [if_pos trivial]
  cases hv : validS o with
  | false =>
    have e : textR o = (bts [], 2) := by unfold textR; rw [hv]; rfl
    rw [e] at first
    exact .inr ⟨fun h => (by rw [h.1] at hv; cases hv), first _ (Ev.congr (fun k => if_neg (by simp)) bad)⟩
  | true =>
    have e : textR o = (bts (textB o), 0) := by unfold textR; rw [hv]; rfl
    rw [e] at first
    by_cases hc : textB o = (bts l).toList
    · refine .inl ⟨⟨hv, hc⟩, first _ (Ev.congr (fun k => if_pos rfl) (Ev.step (f := fun _ => some (o, 0)) (fun k => ?_) (Ev.now _)))⟩
      simp only [kimberliteref01_Parse.j7]
      rw [bts_list, hc, bne_self_eq_false, if_neg (by simp)]
    · refine .inr ⟨fun h => hc h.2, first _ (Ev.congr (fun k => if_pos rfl) ?_)⟩
      have : ((bts (textB o)).toList != (bts l).toList) = true := by rw [bts_list]; exact bne_iff_ne.2 hc
      simp only
      rw [this]
      exact bad
theorem piece_span {p : S41} (h : goodS p = true) (c : Nat) (hc : c < 128) : pieceR (spanB p) c = some p := by
  obtain ⟨⟨a1, a2⟩, b1, b2⟩ := good_range h
  have e : index (spanB p) [46, 46] = ((itoa p.f0).length : Int) := index_two 46 _ _ fun b hb => (itoa_no p.f0 b hb).2
  have t1 : (spanB p).take (itoa p.f0).length = itoa p.f0 := List.take_left' rfl
  have t2 : (spanB p).drop ((itoa p.f0).length + 2) = itoa p.f1 := by
    unfold spanB
    rw [List.drop_append]
    simp
  unfold pieceR
  rw [e, if_neg (by omega), if_neg (by omega), Int.toNat_natCast, t1, t2, num_itoa _ ⟨a1, a2⟩, num_itoa _ ⟨b1, b2⟩, if_pos ⟨rfl, rfl⟩]
theorem pieces_span : ∀ (l out : List S41), (∀ p ∈ l, goodS p = true) → out.length + l.length ≤ 128 → piecesR (l.map spanB) out = some (out ++ l)
  | [], out, _, _ => by rw [List.map_nil, List.append_nil]; rfl
  | p :: t, out, hg, hl => by
    rw [List.length_cons] at hl
    have ih := pieces_span t (out ++ [p]) (fun q hq => hg q (List.mem_cons_of_mem _ hq)) (by rw [List.length_append, List.length_singleton]; omega)
    rw [List.map_cons]
    simp only [piecesR]
    rw [piece_span (hg p List.mem_cons_self) _ (by omega)]
    simp only
    rw [ih, List.append_assoc]
    rfl
theorem canon_pieces {s : ByteArray} {a : List S41} (h : Canon s a) (h0 : a ≠ []) : piecesR (split s.toList [32]) [] = some a := by
  obtain ⟨hv, ht⟩ := h
  obtain ⟨h1, h2⟩ := valid_mem hv
  rw [← ht, text_split h0]
  exact pieces_span a [] h2 (by simpa using h1)
theorem pieces_len : ∀ (ws : List (List UInt8)) (out r : List S41), piecesR ws out = some r → r.length = out.length + ws.length
  | [], out, r, h => by
    simp only [piecesR, Option.some.injEq] at h
    subst h
    rfl
  | x :: t, out, r, h => by
    simp only [piecesR] at h
    split at h
    · cases h
    · have := pieces_len t _ r h
      rw [List.length_append, List.length_singleton] at this
      rw [List.length_cons]
      omega
theorem rparse_ev (s : ByteArray) (hs : s.size ≤ 1000000) : (∃ a, Canon s a ∧ Ev (fun k => kimberliteref01_Parse.f k s) (a, 0)) ∨ ((∀ a, ¬Canon s a) ∧ Ev (fun k => kimberliteref01_Parse.f k s) ([], 5)) := by
  unfold kimberliteref01_Parse.f
  by_cases h45 : s.toList = ([45] : List UInt8)
  · exact .inl ⟨[], ⟨by rfl, by rw [h45]; rfl⟩, Ev.congr (f := fun _ => some ([], 0)) (fun k => if_pos h45) (Ev.now _)⟩
  · have key : ∀ a, Canon s a → piecesR (split s.toList [32]) [] = some a := fun a ha => canon_pieces ha (by
      rintro rfl
      exact h45 ha.2.symm)
    have hl : s.toList.length ≤ 1000000 := by
      have e3 : s.data.toList.length = s.size := by rw [Array.length_toList]; rfl
      rw [← dat_list, e3]
      exact hs
    have hm := fun R h => rp_main s.toList hl (s.toList.length + 1) 0 [] R (by omega) (Nat.zero_le _) (Nat.le_refl _) h
    rw [bts_of, List.drop_zero] at hm
    cases hw : piecesR (split s.toList [32]) [] with
    | none =>
      rw [hw] at hm
      exact .inr ⟨fun a ha => (by rw [key a ha] at hw; cases hw), Ev.congr (fun k => if_neg h45) (hm ([], 5) rfl)⟩
    | some o =>
      rw [hw] at hm
      have hlen := pieces_len _ _ _ hw
      have hcount : (split s.toList [32]).length ≤ s.toList.length + 3 := by
        have h1 : (wordsOf s).length = countB s ⟨#[32]⟩ + 1 := splitB_all ⟨#[32]⟩ (by decide) 0 _ s rfl
        have e2 := count_le s.data.toList [32]
        have e4 : countB s ⟨#[32]⟩ = count s.data.toList [32] := rfl
        rw [← words_list, List.length_map, h1, e4]
        rw [dat_list] at e2 ⊢
        omega
      rw [List.length_nil] at hlen
      have he := rp_end s.toList hl o (by omega)
      rw [bts_of] at he
      rcases he with ⟨hc, he⟩ | ⟨hn, he⟩
      · exact .inl ⟨o, hc, Ev.congr (fun k => if_neg h45) (hm (o, 0) he)⟩
      · refine .inr ⟨fun a ha => ?_, Ev.congr (fun k => if_neg h45) (hm ([], 5) he)⟩
        have := key a ha
        rw [hw] at this
        injection this with this
        subst this
        exact hn ha
theorem canon_one {s : ByteArray} {a b : List S41} (ha : Canon s a) (hb : Canon s b) : a = b := by
  by_cases h0 : a = []
  · by_cases h1 : b = []
    · rw [h0, h1]
    · subst h0
      exact absurd (hb.2.trans ha.2.symm) (text_dash h1)
  · by_cases h1 : b = []
    · subst h1
      exact absurd (ha.2.trans hb.2.symm) (text_dash h0)
    · have h2 := canon_words ha h0
      rw [canon_words hb h1] at h2
      exact (Option.some.inj h2).symm
/-- Both parse alike. -/
theorem parse_two (s : ByteArray) (hs : s.size ≤ 1000000) : ∃ x g, (x.length ≤ 128) ∧ Ev (fun k => span_Parse.f k s) (x, g) ∧ Ev (fun k => kimberliteref01_Parse.f k s) (x, g) := by
  rcases parse_ev s hs with ⟨a, ha, h1⟩ | ⟨hn, h1⟩
  · rcases rparse_ev s hs with ⟨b, hb, h2⟩ | ⟨hn, h2⟩
    · obtain rfl := canon_one ha hb
      exact ⟨a, 0, (valid_mem ha.1).1, h1, h2⟩
    · exact absurd ha (hn a)
  · rcases rparse_ev s hs with ⟨b, hb, h2⟩ | ⟨_, h2⟩
    · exact absurd hb (hn b)
    · exact ⟨[], 5, by simp, h1, h2⟩
end Go.Proofs.YtmomcbhgggggnaaGreatDoor.Pr
end
section
namespace Go.Proofs.YtmomcbhgggggnaaGreatDoor.Pr
open Go.RowKit Go.Proofs.YtmomcbhgggggnaaGreatDoorW.PrintWords Go.Proofs.YtmomcbhgggggnaaGreatDoorW.PrintLast Go.Proofs.YtmomcbhgggggnaaGreatDoorW.PrintMore
set_option linter.unusedVariables false
set_option linter.unusedSimpArgs false
theorem wrapS_succ {i n : Nat} (h : i < n) (hn : n ≤ 9223372036854775807) : wrap64 ((i : Int) + 1) = ((i + 1 : Nat) : Int) := by
  unfold wrap64
  omega
theorem same_loop (l : List S41) (hn : l.length ≤ 9223372036854775807) : ∀ (d i : Nat), l.length - i = d → Ev (fun k => kimberlitelaw01_same.l0 k l l (i : Int)) true
  | 0, i, h => Ev.step (f := fun _ => some true) (fun k => by simp only [kimberlitelaw01_same.l0]; rw [if_neg (by omega)]) (Ev.now _)
  | d + 1, i, h => by
    have hi : i < l.length := by omega
    refine Ev.step (f := fun k => kimberlitelaw01_same.l0 k l l ((i + 1 : Nat) : Int)) (fun k => ?_) (same_loop l hn d (i + 1) (by omega))
    simp only [kimberlitelaw01_same.l0]
    rw [if_pos (by omega), if_pos (by omega), if_pos (by omega), wrapS_succ hi hn]
    simp
theorem same_ev (l : List S41) (hn : l.length ≤ 9223372036854775807) : Ev (fun k => kimberlitelaw01_same.f k l l) true := by
  unfold kimberlitelaw01_same.f
  simpa using same_loop l hn _ 0 rfl
theorem SpanTexts_walk (A0 : Option Addr) (c0 : Nat) (l0 : List S41) (hc0 : l0.length ≤ c0) (w : World) (hr0 : Kd.C k41 w A0 l0.length l0) (s : ByteArray) (hL : LaidAt w) :
    Calls Tryz.prog 3 #[.slice A0 l0.length c0, .string s] w fun e w' => e = .returned (.bool true) ∧ Below w.heap.size w w' := by
  have hn : l0.length ≤ 9223372036854775807 := by have := hr0.2.1; omega
  have hw : textR l0 = ((textR l0).1, (textR l0).2) := rfl
  by_cases h6 : s.size ≤ 1000000
  · obtain ⟨x, g, hx, hp, hq⟩ := parse_two s h6
    exact texts_calls A0 c0 l0 s w ⟨hL⟩ hr0 hc0 _ _ x g (hw ▸ (text_ev l0 hn).rounds) (hw ▸ (rtext_ev l0 hn).rounds) (fun _ => hp.rounds) (fun _ => hq.rounds) (fun _ => (same_ev x (by omega)).rounds)
  · exact texts_calls A0 c0 l0 s w ⟨hL⟩ hr0 hc0 _ _ [] 0 (hw ▸ (text_ev l0 hn).rounds) (hw ▸ (rtext_ev l0 hn).rounds) (fun h => absurd h (by omega)) (fun h => absurd h (by omega)) (fun h => absurd h (by omega))
end Go.Proofs.YtmomcbhgggggnaaGreatDoor.Pr
end
section
namespace Go.Proofs.YtmomcbhgggggnaaGreatDoor.Pr
open Go.RowKit Go.ChangeShapes Go.WideShapes Go.Deep Go.Joins Go.Proofs.YtmomcbhgggggnaaGreatDoorW.PrintWords Go.Proofs.YtmomcbhgggggnaaGreatDoorW.PrintLast Go.Proofs.YtmomcbhgggggnaaGreatDoorW.PrintMore
set_option linter.unusedVariables false
set_option linter.unusedSimpArgs false
section
variable {H : Type} {enc : TypeId × Value → H} {W : World}
/-- Both numbers of a span are int64s. -/
def okS (x : S41) : Prop := (Lit.int .i64 x.f0).wf = true ∧ (Lit.int .i64 x.f1).wf = true
set_option maxRecDepth 100000 in
theorem open_spans {a : Option Addr} {len cap : Nat} {d : DataW H} {p : List MemPlace} (h : DataW.Trod enc Tryz.prog W 0 (fun _ => true) true 22 (.slice a len cap) d p) :
    ∃ l : List S41, l.length = len ∧ l.length ≤ cap ∧ Kd.C k41 W a l.length l ∧ ∀ x ∈ l, okS x := by
  obtain ⟨fuel, hf⟩ := h
  rcases open_slice Tryz.underlying22 hf with ⟨hcs, _⟩ | ⟨ad, len', cap', m, n, D, Pl, hcs, _, hl, hm, hmm, _, hi⟩
  · simp [Value.cells] at hcs
    obtain ⟨rfl, rfl, rfl⟩ := hcs
    exact ⟨[], rfl, by simp, ⟨rfl, by simp, fun h => absurd h (by simp)⟩, fun x hx => absurd hx (by simp)⟩
  · simp [Value.cells] at hcs
    obtain ⟨rfl, rfl, rfl⟩ := hcs
    have hC : Tryz.prog.cellsOf 41 = 2 := by kernel_rfl
    have key : ∀ i, i < len → ∃ x : S41, okS x ∧ W.cell? (ad.add (i * 2)) = some (.int .i64 x.f0) ∧ W.cell? (ad.add (i * 2 + 1)) = some (.int .i64 x.f1) := by
      intro i hil
      obtain ⟨cs', hc, ht'⟩ := hi i (by rw [hmm]; simp; omega)
      rw [hC] at hc
      obtain ⟨ys, n', hn', hy, hlen, hyl, hfd⟩ := DataW.trod_struct Tryz.underlying41 ht'
      obtain ⟨_, hcl, hat⟩ := World.cells?_some hc
      match cs', hcl with
      | [c0, c1], _ =>
        have k3 : Tryz.prog.cellsOf 3 = 1 := by kernel_rfl
        obtain ⟨y0, hy0⟩ : ∃ y, ys[0]? = some y := ⟨_, List.getElem?_eq_getElem (by rw [hyl]; decide)⟩
        obtain ⟨y1, hy1⟩ : ∃ y, ys[1]? = some y := ⟨_, List.getElem?_eq_getElem (by rw [hyl]; decide)⟩
        have g0 := hfd 0 _ rfl
        have g1 := hfd 1 _ rfl
        dsimp only [List.getElem_toArray, List.getElem_cons_zero, List.getElem_cons_succ] at g0 g1
        rw [k3, hy0] at g0
        rw [k3, hy1] at g1
        simp only [List.drop_zero, List.drop_succ_cons, List.take_succ_cons, List.take_zero] at g0 g1
        obtain ⟨a0, e0, _, w0⟩ := DataW.trod_int Tryz.underlying3 g0
        obtain ⟨a1, e1, _, w1⟩ := DataW.trod_int Tryz.underlying3 g1
        simp at e0 e1
        subst e0 e1
        have h0 := hat 0 (by omega)
        have h1 := hat 1 (by omega)
        rw [Deep.add_add] at h0 h1
        exact ⟨⟨a0, a1⟩, ⟨w0, w1⟩, by simpa using h0, by simpa using h1⟩
    obtain ⟨f, hf⟩ := @choose_lt S41 ⟨z41⟩ _ _ key
    refine ⟨(List.range len).map f, by simp, by simpa using hl, ⟨by simp, by simp; simp only [maxLen] at hm; omega, fun _ => ⟨ad, rfl, fun j x hj => ?_⟩⟩, ?_⟩
    · obtain ⟨hjl, hx⟩ := List.getElem?_eq_some_iff.1 hj
      have hjl' : j < len := by simpa using hjl
      simp at hx
      subst hx
      obtain ⟨_, h0, h1⟩ := hf j hjl'
      refine ⟨_, rfl, k41_mk W (f j), fun i u hu => ?_⟩
      match i, hu with
      | 0, hu => simp at hu; subst hu; exact h0
      | 1, hu => simp at hu; subst hu; exact h1
      | i + 2, hu => simp at hu
    · intro x hx
      obtain ⟨j, hj, rfl⟩ := List.mem_map.1 hx
      exact (hf j (by simpa using hj)).1
end
end Go.Proofs.YtmomcbhgggggnaaGreatDoor.Pr
end
section
namespace Go.Proofs.YtmomcbhgggggnaaGreatDoor.Pr
open Go.RowKit Go.ChangeShapes Go.WideShapes Go.ChangeAt
set_option linter.unusedVariables false
theorem own : ownKnob Tryz.prog.godebug = none := by kernel_rfl
theorem laidOut : laidOutB Tryz.prog = true := by kernel_rfl
theorem laid_of {W : World} (h : laidMetH Tryz.prog Rows.spanTextsRow.laid W) (hs : W.ShapedOpen Tryz.prog) : LaidAt W := by
  have h' : laidMet Tryz.prog Rows.spanTextsRow.laid W := h
  obtain ⟨ps, ⟨g1, t1, cs1, f1, p1, q1, hg1, ht1, hv1, hd1, ⟨g2, t2, cs2, f2, p2, q2, hg2, ht2, hv2, hd2, ⟨g3, t3, cs3, f3, p3, q3, hg3, ht3, hv3, hd3, ⟨g4, t4, cs4, f4, p4, q4, hg4, ht4, hv4, hd4, ⟨g5, t5, cs5, f5, p5, q5, hg5, ht5, hv5, hd5, ⟨g6, t6, cs6, f6, p6, q6, hg6, ht6, hv6, hd6, _⟩, _⟩, _⟩, _⟩, _⟩, _⟩, _⟩ := h'
  clear hg1 ht1 hv1 hd1 hg2 ht2 hv2 hd2 hg4 ht4 hv4 hd4
  refine ⟨?_, ?_, ?_, ?_⟩
  · exact cell_of_shapedOpen_int (g := 0) (t := 3) (zero := #[.int .i64 0]) hs (of_decide_eq_true (by kernel_rfl)) (by kernel_rfl) rfl (by kernel_rfl) (by kernel_rfl) Tryz.underlying3
  · obtain rfl := Option.some.inj ((show Tryz.prog.globalNamed "strconv.ErrSyntax" = some 1 by kernel_rfl).symm.trans hg6)
    obtain rfl := Option.some.inj ((show (Tryz.prog.globals[1]?).map (·.type) = some 53 by kernel_rfl).symm.trans ht6)
    obtain ⟨_, u, v, e, _⟩ := iface_of_trod Tryz.underlying53 hd6
    refine ⟨u, v, ?_⟩
    have := World.var?_cell hg6 hv6 0
    rw [Array.eq_one_of_toList e] at this
    simpa using this
  · obtain rfl := Option.some.inj ((show Tryz.prog.globalNamed "strconv.ErrRange" = some 2 by kernel_rfl).symm.trans hg5)
    obtain rfl := Option.some.inj ((show (Tryz.prog.globals[2]?).map (·.type) = some 53 by kernel_rfl).symm.trans ht5)
    obtain ⟨_, u, v, e, _⟩ := iface_of_trod Tryz.underlying53 hd5
    refine ⟨u, v, ?_⟩
    have := World.var?_cell hg5 hv5 0
    rw [Array.eq_one_of_toList e] at this
    simpa using this
  · obtain rfl := Option.some.inj ((show Tryz.prog.globalNamed "internal/strconv.uint64pow10" = some 3 by kernel_rfl).symm.trans hg3)
    obtain rfl := Option.some.inj ((show (Tryz.prog.globals[3]?).map (·.type) = some 138 by kernel_rfl).symm.trans ht3)
    unfold Lib.TabIs
    rw [hv3]
    congr 1
    exact (Array.toList_inj.1 (by rw [Lib.cells_of_tab (zs := Lib.pow10Tab) (k := .u64) Tryz.underlying138 (by kernel_rfl) (by kernel_rfl) (by kernel_rfl) hd3]))
/-- A world for the witness: the one that the door's own run leaves, the pinned table laid beside. -/
noncomputable def laidWorld (os : Os) : World :=
  { World.doorLaid Tryz.prog 72 os with heap := (World.doorLaid Tryz.prog 72 os).heap.modify 4 fun
      | .cells _ t frozen => .cells (Go.Pinned.utf8FirstZ.map fun z => Value.int .u8 (Int.ofNat z)).toArray t frozen
      | o => o }
theorem laid_met (os : Os) (args : Array Value) : laidMet Tryz.prog Rows.spanTextsRow.laid ((laidWorld os).forCall (fun _ _ => 0) ⟨#[], args, []⟩).memory :=
  laidMet_of_run' 8 (by kernel_rfl) (by kernel_rfl)
theorem laid_vars (os : Os) (args : Array Value) : ((laidWorld os).forCall (fun _ _ => 0) ⟨#[], args, []⟩).variablesRefB Tryz.prog = true := by kernel_rfl
theorem laid_rest (os : Os) (args : Array Value) : (((laidWorld os).forCall (fun _ _ => 0) ⟨#[], args, []⟩).heap.toList.drop Tryz.prog.globals.size).take ((begin Tryz.prog (fun _ _ => 0) default).world.heap.size - Tryz.prog.globals.size) =
      (begin Tryz.prog (fun _ _ => 0) default).world.heap.toList.drop Tryz.prog.globals.size := by kernel_rfl
end Go.Proofs.YtmomcbhgggggnaaGreatDoor.Pr
end
section
namespace Go.Proofs.YtmomcbhgggggnaaGreatDoor.spanTexts
open Go.ChangeMaps Go.ChangeShapes Go.WideShapes Go.ChangeAt Go.RowKit Go.Proofs.YtmomcbhgggggnaaGreatDoor.Pr
set_option linter.unusedVariables false
set_option maxRecDepth 100000 in
theorem contract (H : Type) (enc : TypeId × Value → H) (W : World) (base : Nat) (args : Array Value) (ds gs : List (DataW H)) (before : List MemPlace)
    (hval0 : ∀ (j : Nat) t v, Tryz.f3.params[j]? = some t → args[j]? = some v → Value.okWide Tryz.prog W .any base t v)
    (hW : DataW.Whole enc Tryz.prog Tryz.f3.params.toList Rows.spanTextsSpec.vars false W args.toList ds gs before) (hL : LaidAt W) :
    Calls Tryz.prog 3 args W fun e W' => ∃ v, e = .returned v ∧ Rows.spanTextsSpec.post enc Tryz.prog Tryz.f3 false true false false W args v W' := by
  have hval : ∀ (j : Nat) t v, Tryz.f3.params[j]? = some t → args[j]? = some v → Value.okWide Tryz.prog W .any base t v := hval0
  have hW' := hW
  obtain ⟨p, q, hA0, hV, rfl, hfz, hnd⟩ := hW
  have hA : DataW.TrodAll enc Tryz.prog W 0 (fun _ => true) true Tryz.f3.params.toList args.toList ds p := hA0
  rw [Tryz.params3] at hA hval
  obtain ⟨v0, vs0, d0, ds0, p0, q0, hargs, rfl, rfl, h0, r0⟩ := trodAll_cons hA
  obtain ⟨v1, vs1, d1, ds1, p1, q1, rfl, rfl, rfl, h1, r1⟩ := trodAll_cons r0
  obtain ⟨rfl, rfl, rfl⟩ := trodAll_nil r1
  obtain rfl : args = #[v0, v1] := by cases args; simp_all
  obtain ⟨rfl, rfl⟩ := trodVars_none hV
  have k0 := h0
  have lt0 : ∀ x ∈ p0, x.block < W.heap.size := by obtain ⟨m, hm⟩ := k0; exact DataW.trod_lt m _ _ _ hm
  obtain ⟨a0, len0, cap0, rfl⟩ := okWide_slice Tryz.underlying22 (hval 0 22 v0 rfl rfl)
  obtain ⟨l0, rfl, c0, hr0, w0⟩ := open_spans h0
  obtain ⟨s, rfl, rfl, rfl, ws⟩ := open_string Tryz.underlying9 (hval 1 9 v1 rfl rfl) h1
  clear hA0 hval0
  try simp only [List.append_nil] at hW'
  refine (SpanTexts_walk a0 cap0 l0 c0 W hr0 s hL).mono fun e W' ⟨he, bel⟩ => ?_
  subst he
  exact ⟨_, rfl, _, _, _, [], _, [], hW', trodAll_mk1 (shut_bool Tryz.underlying4 _), (trodAll_cons_mk (Below.trod laidOut (by kernel_rfl) (of_decide_eq_true (by kernel_rfl)) k0 bel lt0) (trodAll_cons_mk (shut_string Tryz.underlying9 ws) trodAll_mk0)), rfl, bel.frame _, fun h => by cases h⟩
theorem reads (os : Os) {H : Type} (enc : TypeId × Value → H) : ∃ places, DataW.whole enc Tryz.prog ((laidWorld os).forCall (fun _ _ => 0) ⟨#[], #[.slice none 0 0, .string (ByteArray.mk #[])], []⟩).memory Tryz.f3.params.toList Rows.spanTextsSpec.vars false #[Value.slice none 0 0, .string (ByteArray.mk #[])].toList 8 = some ([.nil, .lit (.string [])], [], places) :=
  ⟨[], by kernel_rfl⟩
set_option maxRecDepth 100000 in
theorem lifted (os : Os) (started : os.Started) (H : Type) (enc : TypeId × Value → H) (F : Stop.Interp) :
    ReturnsInHanded {} Tryz.checked os 3 .any ((OpenSpec.ofChange Rows.spanTextsSpec).preRow enc Tryz.prog Tryz.f3 Rows.spanTextsRow.domain false Rows.spanTextsRow.laid) (((OpenSpec.ofChange Rows.spanTextsSpec).at F).post enc Tryz.prog Tryz.f3 false true false false) := by
  obtain ⟨places, hx⟩ := reads os enc
  refine returnsInHanded_of_row (C := Tryz.checked) (s := OpenSpec.ofChange Rows.spanTextsSpec) own started (by kernel_rfl) Tryz.func3
    (witness_row_atRef (enc := enc) (C := Tryz.checked) false (laidWorld os) #[.slice none 0 0, .string (ByteArray.mk #[])] rfl (laid_vars os _) (laid_rest os _) (by kernel_rfl)
      (OpenSpec.preRow_of_cond 8 hx (by kernel_rfl) (fun k hk => by cases hk) (by kernel_rfl) (laid_met os _))) ?_
  intro W base args ds gs before hval hW _ _ _ hL hS _
  exact contract H enc W base args ds gs before hval hW (laid_of hL hS)
theorem said : Rows.SpanTextsSaid :=
  OpenClaim.holds_of_cond 3 Tryz.f3 rfl rfl rfl rfl rfl rfl rfl ⟨rfl, rfl, rfl, rfl, rfl⟩ rfl rfl rfl rfl rfl (by kernel_rfl) Tryz.func3 (by kernel_rfl)
    (of_decide_eq_true (by kernel_rfl)) (by unfold Func.isWrapper; first | (rw [if_pos (by decide +kernel)]; kernel_rfl) | (rw [if_neg (by decide +kernel)]; exact ⟨rfl, rfl⟩))
    (fun os started H enc _ F => by rw [OpenClaim.pre_eq_preRow]; exact lifted os started H enc F)
theorem plain (f : FuncId) (fn : Func) (hf : Tryz.pinned.checked.prog.funcNamed "kimberlite/kimberlitelaw01.SpanTexts" = some f) (hfn : Tryz.pinned.checked.prog.funcs[f]? = some fn) :
    true = Tryz.pinned.checked.prog.looks [] ∧ ∀ (j : Nat) t, fn.params[j]? = some t → Tryz.pinned.checked.prog.wantsStandIn t = false := by
  obtain rfl : f = 3 := Option.some.inj ((show Tryz.prog.funcNamed "kimberlite/kimberlitelaw01.SpanTexts" = some 3 by kernel_rfl).symm.trans hf) |>.symm
  obtain rfl : fn = Tryz.f3 := (Option.some.inj (Tryz.func3.symm.trans hfn)).symm
  refine ⟨by kernel_rfl, fun j t ht => ?_⟩
  rw [Tryz.params3] at ht
  have hm : t ∈ [22, 9] := by simpa using Array.mem_of_getElem? ht
  have hall : ([22, 9].all fun u => !Tryz.prog.wantsStandIn u) = true := by kernel_rfl
  exact (show Tryz.prog.wantsStandIn t = false by simpa using List.all_eq_true.1 hall t hm)
theorem card : Rows.SpanTextsCardSaid :=
  Claim7.holds_tied_plain_at .later [] _ _ _ _ said (fun _ h => by cases h) (by kernel_rfl) (fun _ h => by cases h) spanTexts_row_tie rfl ⟨rfl, rfl⟩ (by kernel_rfl) rfl plain (by kernel_rfl)
end Go.Proofs.YtmomcbhgggggnaaGreatDoor.spanTexts
namespace Go.Proofs.YtmomcbhgggggnaaGreatDoor
/-- The card, under a short name, for the claim. -/
theorem spanTexts_holds : Rows.SpanTextsCardSaid := spanTexts.card
end Go.Proofs.YtmomcbhgggggnaaGreatDoor
end
