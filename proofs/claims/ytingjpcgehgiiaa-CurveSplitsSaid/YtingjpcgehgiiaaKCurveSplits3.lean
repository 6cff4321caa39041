/- What the proof of the law needs, trimmed and merged by wip/pack.py out of the texts YtingjpcgehgiiaaPrx5, YtingjpcgehgiiaaPrx6, YtingjpcgehgiiaaPrx20, YtingjpcgehgiiaaRfp, YtingjpcgehgiiaaPrx10, YtingjpcgehgiiaaRmk, YtingjpcgehgiiaaRmp. No condition. -/
import Derived.Test.YtingjpcgehgiiaaKCurveSplits0
import Derived.Test.YtingjpcgehgiiaaKCurveSplits1
import Derived.Test.YtingjpcgehgiiaaKCurveSplits2
section
namespace Go.Proofs.Ytingjpcgehgiiaa.Pr
open Go.RowKit Go.Proofs.YtingjpcgehgiiaaW.PrintWords Go.Proofs.YtingjpcgehgiiaaW.PrintLast Go.Proofs.YtingjpcgehgiiaaW.PrintMore
attribute [local go_sem] max2_int min2_int max_two min_two max_three min_three max_four min_four   -- for this text's walks alone
set_option linter.unusedVariables false
set_option linter.unusedSimpArgs false
mutual
def kimberliteref03_Valid.j0 : Nat → Bool → Int → Int → List Int → Option (Bool)
 | 0, _, _, _, _ => none
 | k + 1, x27, x159000, x159001, x159002 => if x27 = true then (some false) else (kimberliteref03_Valid.l0 k 0 x159000 x159001 x159002)
def kimberliteref03_Valid.l0 : Nat → Int → Int → Int → List Int → Option (Bool)
 | 0, _, _, _, _ => none
 | k + 1, x3, x159000, x159001, x159002 => if x3 < (x159002.length : Int) then (if 0 ≤ x3 then (if (rd x159002 x3) < (-1048576) then (kimberliteref03_Valid.j2 k x3 true x159000 x159001 x159002) else (if (rd x159002 x3) > 1048576 then (kimberliteref03_Valid.j2 k x3 true x159000 x159001 x159002) else (if x3 > 0 then (if 0 ≤ (wrap64 (x3 - 1)) then (if (wrap64 (x3 - 1)) < (x159002.length : Int) then (kimberliteref03_Valid.j2 k x3 (decide ((rd x159002 (wrap64 (x3 - 1))) > (rd x159002 x3))) x159000 x159001 x159002) else (none)) else (none)) else (kimberliteref03_Valid.j2 k x3 false x159000 x159001 x159002)))) else (none)) else (some true)
def kimberliteref03_Valid.j2 : Nat → Int → Bool → Int → Int → List Int → Option (Bool)
 | 0, _, _, _, _, _ => none
 | k + 1, x3, x66, x159000, x159001, x159002 => if x66 = true then (some false) else (kimberliteref03_Valid.l0 k (wrap64 (x3 + 1)) x159000 x159001 x159002)
end
def kimberliteref03_Valid.f (k : Nat) (a0_0 : Int) (a0_1 : Int) (l0_2 : List Int) : Option (Bool) := if a0_0 < (-1048576) then (kimberliteref03_Valid.j0 k true a0_0 a0_1 l0_2) else (if a0_0 > 1048576 then (kimberliteref03_Valid.j0 k true a0_0 a0_1 l0_2) else (if a0_1 < (-1099511627776) then (kimberliteref03_Valid.j0 k true a0_0 a0_1 l0_2) else (if a0_1 > 1099511627776 then (kimberliteref03_Valid.j0 k true a0_0 a0_1 l0_2) else (kimberliteref03_Valid.j0 k (decide ((l0_2.length : Int) > 64)) a0_0 a0_1 l0_2))))
theorem kimberliteref03_Valid.mono_l : ∀ k, (∀ y0 y1 y2 y3, LeO (kimberliteref03_Valid.j0 k y0 y1 y2 y3) (kimberliteref03_Valid.j0 (k + 1) y0 y1 y2 y3)) ∧ (∀ y0 y1 y2 y3, LeO (kimberliteref03_Valid.l0 k y0 y1 y2 y3) (kimberliteref03_Valid.l0 (k + 1) y0 y1 y2 y3)) ∧ (∀ y0 y1 y2 y3 y4, LeO (kimberliteref03_Valid.j2 k y0 y1 y2 y3 y4) (kimberliteref03_Valid.j2 (k + 1) y0 y1 y2 y3 y4))
 | 0 => ⟨fun _ _ _ _ r h => by simp [kimberliteref03_Valid.j0] at h, fun _ _ _ _ r h => by simp [kimberliteref03_Valid.l0] at h, fun _ _ _ _ _ r h => by simp [kimberliteref03_Valid.j2] at h⟩
 | k + 1 => by
  obtain ⟨ih0, ih1, ih2⟩ := kimberliteref03_Valid.mono_l k; refine ⟨?_, ?_, ?_⟩
  · intro y0 y1 y2 y3; unfold kimberliteref03_Valid.j0
    repeat' first
    | (with_reducible exact ih0 _ _ _ _)
    | (with_reducible exact ih1 _ _ _ _)
    | (with_reducible exact ih2 _ _ _ _ _)
    | (with_reducible exact LeO.refl _)
    | (with_reducible exact LeO.none _)
    | (with_reducible refine LeO.ite ?_ ?_)
    | (with_reducible refine LeO.bind ?_ (fun _ => ?_))
    | exact ih0 _ _ _ _
    | exact ih1 _ _ _ _
    | exact ih2 _ _ _ _ _
    | exact LeO.none _
    | refine LeO.ite ?_ ?_
    | refine LeO.bind ?_ (fun _ => ?_)
  · intro y0 y1 y2 y3; unfold kimberliteref03_Valid.l0
    repeat' first
    | (with_reducible exact ih0 _ _ _ _)
    | (with_reducible exact ih1 _ _ _ _)
    | (with_reducible exact ih2 _ _ _ _ _)
    | (with_reducible exact LeO.refl _)
    | (with_reducible exact LeO.none _)
    | (with_reducible refine LeO.ite ?_ ?_)
    | (with_reducible refine LeO.bind ?_ (fun _ => ?_))
    | exact ih0 _ _ _ _
    | exact ih1 _ _ _ _
    | exact ih2 _ _ _ _ _
    | exact LeO.none _
    | refine LeO.ite ?_ ?_
    | refine LeO.bind ?_ (fun _ => ?_)
  · intro y0 y1 y2 y3 y4; unfold kimberliteref03_Valid.j2
    repeat' first
    | (with_reducible exact ih0 _ _ _ _)
    | (with_reducible exact ih1 _ _ _ _)
    | (with_reducible exact ih2 _ _ _ _ _)
    | (with_reducible exact LeO.refl _)
    | (with_reducible exact LeO.none _)
    | (with_reducible refine LeO.ite ?_ ?_)
    | (with_reducible refine LeO.bind ?_ (fun _ => ?_))
    | exact ih0 _ _ _ _
    | exact ih1 _ _ _ _
    | exact ih2 _ _ _ _ _
    | exact LeO.none _
    | refine LeO.ite ?_ ?_
    | refine LeO.bind ?_ (fun _ => ?_)
theorem kimberliteref03_Valid.mono : ∀ a0 a1 a2 k, LeO (kimberliteref03_Valid.f k a0 a1 a2) (kimberliteref03_Valid.f (k + 1) a0 a1 a2) := by
 intro a0 a1 a2 k; obtain ⟨ih0, ih1, ih2⟩ := kimberliteref03_Valid.mono_l k; unfold kimberliteref03_Valid.f
 repeat' first
  | (with_reducible exact ih0 _ _ _ _)
  | (with_reducible exact ih1 _ _ _ _)
  | (with_reducible exact ih2 _ _ _ _ _)
  | (with_reducible exact LeO.refl _)
  | (with_reducible exact LeO.none _)
  | (with_reducible refine LeO.ite ?_ ?_)
  | (with_reducible refine LeO.bind ?_ (fun _ => ?_))
  | exact ih0 _ _ _ _
  | exact ih1 _ _ _ _
  | exact ih2 _ _ _ _ _
  | exact LeO.none _
  | refine LeO.ite ?_ ?_
  | refine LeO.bind ?_ (fun _ => ?_)
set_option maxHeartbeats 8000000 in
set_option maxRecDepth 100000 in
theorem kimberliteref03_Valid.calls (k : Nat) (a0_0 : Int) (a0_1 : Int) (A0_2 : Option Addr) (c0_2 : Nat) (l0_2 : List Int) (r : Bool) (w : World) (hr0_2 : Kd.C (Kd.int .i64) w A0_2 l0_2.length l0_2) (hc0_2 : l0_2.length ≤ c0_2) (h : kimberliteref03_Valid.f k a0_0 a0_1 l0_2 = some r) :
 Calls Try.prog 30 #[.agg #[.int .i64 a0_0, .int .i64 a0_1, .slice A0_2 l0_2.length c0_2]] w fun e w' => e = .returned (.bool r) ∧ Below w.heap.size w w' := by
 have hu24 := Try.underlying24; have HR0_2 := Aside0.mk hr0_2; have HC0_2 := Aside0.mk hc0_2; clear hr0_2 hc0_2; have HB := Aside0.mk (Below.refl w.heap.size w); have H : (if a0_0 < (-1048576) then (kimberliteref03_Valid.j0 k true a0_0 a0_1 l0_2) else (if a0_0 > 1048576 then (kimberliteref03_Valid.j0 k true a0_0 a0_1 l0_2) else (if a0_1 < (-1099511627776) then (kimberliteref03_Valid.j0 k true a0_0 a0_1 l0_2) else (if a0_1 > 1099511627776 then (kimberliteref03_Valid.j0 k true a0_0 a0_1 l0_2) else (kimberliteref03_Valid.j0 k (decide ((l0_2.length : Int) > 64)) a0_0 a0_1 l0_2))))) = some r := h; clear h; have HC2 := Aside0.mk H; clear H; go_enter Try.func30, Try.ntmps30
 go_upto_region 1 with (first | ((with_reducible refine gate_dst (N := 1) rfl ?_); (try (refine gate_guard (by rfl) ?_; dsimp only)); refine box_event ?hg (N := 1) ?hd (cs := #[.int .i64 a0_0, .int .i64 a0_1, .slice A0_2 l0_2.length c0_2]) (t := 24) ?hr ?_; (case hd => rfl); (case hg => rfl); (case hr => first | (go_simp; done) | (go_simp; rfl)); intro gb158 hg w3 hbox hb; have BK158 := Aside0.mk (hbox); have GW158 := Aside0.mk ((by rw [hg]; exact (below_size (nC HB)) : w.heap.size ≤ gb158)); have GE158 := Aside0.mk ((by rw [hg]; exact (below_size (nC HB)) : w.heap.size ≤ gb158)); replace HB := Aside0.mk (below_step (nC HB) hb); clear hb hbox hg))
 repeat (go_quiet (fail); go_upto_region 1 with (first | ((with_reducible refine gate_dst (N := 1) rfl ?_); (try (refine gate_guard (by rfl) ?_; dsimp only)); refine box_event ?hg (N := 1) ?hd (cs := #[.int .i64 a0_0, .int .i64 a0_1, .slice A0_2 l0_2.length c0_2]) (t := 24) ?hr ?_; (case hd => rfl); (case hg => rfl); (case hr => first | (go_simp; done) | (go_simp; rfl)); intro gb158 hg w3 hbox hb; have BK158 := Aside0.mk (hbox); have GW158 := Aside0.mk ((by rw [hg]; exact (below_size (nC HB)) : w.heap.size ≤ gb158)); have GE158 := Aside0.mk ((by rw [hg]; exact (below_size (nC HB)) : w.heap.size ≤ gb158)); replace HB := Aside0.mk (below_step (nC HB) hb); clear hb hbox hg)))
 (try simp only [Act.put, zs1, zs2, zs3]); go_cut [27] (fun v27 wc => ∃ (kq : Nat) (x27_1 : Bool), v27 = .bool x27_1 ∧ Aside0 (kimberliteref03_Valid.j0 kq x27_1 a0_0 a0_1 l0_2 = some r) ∧ Aside0 (kq ≤ k) ∧ Aside0 (wc.heap[gb158]? = some (.cells #[.int .i64 a0_0, .int .i64 a0_1, (.slice A0_2 l0_2.length c0_2)] 24 (0, 0))) ∧ Aside0 (Below w.heap.size w wc))
 case first =>
  have H := HC2.out; clear HC2
  by_cases c4 : a0_0 < (-1048576)
  · rw [if_pos c4] at H; have c4b0 : decide (a0_0 < (-1048576)) = true := decide_eq_true c4; clear c4; (first | rw [c4b0] | (simp only [i64_w, i32_w]; rw [c4b0]) | skip); have H' := Aside0.mk H; clear H; obtain ⟨hcz5_0, hcz5_1, hcz5_2, hfz5_0, hfz5_1, hfz5_2⟩ := cz3 BK158; go_wp2
    repeat (go_quiet (fail); try go_wp2)
    go_meet
    case rel => exact ⟨_, (true), (by first | rfl | (simp; done) | (simp [*]; done)), H', ⟨by first | omega | exact Nat.le_refl _⟩, ⟨nK BK158⟩, ⟨nC HB⟩⟩
  · rw [if_neg c4] at H; have c4b0 : decide (a0_0 < (-1048576)) = false := decide_eq_false c4; clear c4; (first | rw [c4b0] | (simp only [i64_w, i32_w]; rw [c4b0]) | skip)
    by_cases c6 : a0_0 > 1048576
    · rw [if_pos c6] at H; have c6b0 : decide (1048576 < a0_0) = true := decide_eq_true c6; clear c6; have H' := Aside0.mk H; clear H; obtain ⟨hcz7_0, hcz7_1, hcz7_2, hfz7_0, hfz7_1, hfz7_2⟩ := cz3 BK158; go_wp2
      repeat (go_quiet (fail); try go_wp2)
      go_meet
      case rel => exact ⟨_, (true), (by first | rfl | (simp; done) | (simp [*]; done)), H', ⟨by first | omega | exact Nat.le_refl _⟩, ⟨nK BK158⟩, ⟨nC HB⟩⟩
    · rw [if_neg c6] at H; have c6b0 : decide (1048576 < a0_0) = false := decide_eq_false c6; clear c6
      by_cases c8 : a0_1 < (-1099511627776)
      · rw [if_pos c8] at H; have c8b0 : decide (a0_1 < (-1099511627776)) = true := decide_eq_true c8; clear c8; have H' := Aside0.mk H; clear H; obtain ⟨hcz9_0, hcz9_1, hcz9_2, hfz9_0, hfz9_1, hfz9_2⟩ := cz3 BK158; go_wp2
        repeat (go_quiet (fail); try go_wp2)
        go_meet
        case rel => exact ⟨_, (true), (by first | rfl | (simp; done) | (simp [*]; done)), H', ⟨by first | omega | exact Nat.le_refl _⟩, ⟨nK BK158⟩, ⟨nC HB⟩⟩
      · rw [if_neg c8] at H; have c8b0 : decide (a0_1 < (-1099511627776)) = false := decide_eq_false c8; clear c8
        by_cases c10 : a0_1 > 1099511627776
        · rw [if_pos c10] at H; have c10b0 : decide (1099511627776 < a0_1) = true := decide_eq_true c10; clear c10; have H' := Aside0.mk H; clear H; obtain ⟨hcz11_0, hcz11_1, hcz11_2, hfz11_0, hfz11_1, hfz11_2⟩ := cz3 BK158; go_wp2
          repeat (go_quiet (fail); try go_wp2)
          go_meet
          case rel => exact ⟨_, (true), (by first | rfl | (simp; done) | (simp [*]; done)), H', ⟨by first | omega | exact Nat.le_refl _⟩, ⟨nK BK158⟩, ⟨nC HB⟩⟩
        · rw [if_neg c10] at H; have c10b0 : decide (1099511627776 < a0_1) = false := decide_eq_false c10; clear c10; have H' := Aside0.mk H; clear H; obtain ⟨hcz12_0, hcz12_1, hcz12_2, hfz12_0, hfz12_1, hfz12_2⟩ := cz3 BK158; go_wp2
          repeat (go_quiet (fail); try go_wp2)
          go_meet
          case rel => exact ⟨_, (decide ((l0_2.length : Int) > 64)), (by first | rfl | (simp; done) | (simp [*]; done)), H', ⟨by first | omega | exact Nat.le_refl _⟩, ⟨nK BK158⟩, ⟨nC HB⟩⟩
 case rest =>
  clear HC2; obtain ⟨kq, x27_1, rfl, HA, HJ1, BK158, HB⟩ := hcut
  cases kq with
  | zero => exact absurd HA.out (by simp [kimberliteref03_Valid.j0])
  | succ kj1 =>
   have H := HA.out; clear HA; simp only [kimberliteref03_Valid.j0] at H
   by_cases c13 : x27_1 = true
   · subst c13; replace H : (some false) = some r := by rw [if_pos rfl] at H; exact H
     obtain rfl := Option.some.inj H; go_wp2
     repeat (go_quiet (fail); try go_wp2)
     go_ret
     exact ⟨by first | rfl | (simp [errW_none, errW_some] <;> rfl) | (simp [*, errW_none, errW_some] <;> rfl), nC HB⟩
   · replace c13 := Bool.eq_false_iff.mpr c13; subst c13; replace H : (kimberliteref03_Valid.l0 kj1 0 a0_0 a0_1 l0_2) = some r := by rw [if_neg (show ¬ (false = true) by decide)] at H; exact H
     have H' := Aside0.mk H; clear H; go_wp2
     repeat (go_quiet (fail); try go_wp2)
     go_loopg [3] kj1 (fun kq v3 w' => ∃ (x3_2 : Int), v3 = .int .i64 x3_2 ∧ Aside0 (kimberliteref03_Valid.l0 kq x3_2 a0_0 a0_1 l0_2 = some r) ∧ Aside0 (kq ≤ kj1) ∧ Aside0 (w'.heap[gb158]? = some (.cells #[.int .i64 a0_0, .int .i64 a0_1, (.slice A0_2 l0_2.length c0_2)] 24 (0, 0))) ∧ Aside0 (Below w.heap.size w w'))
     case atStart => exact ⟨(0), (by first | rfl | (simp; done) | (simp [*]; done)), H', ⟨Nat.le_refl _⟩, ⟨nK BK158⟩, ⟨nC HB⟩⟩
     case round =>
      clear H'; obtain ⟨x3_2, rfl, HA, HK2, BK158, HB⟩ := hrel
      cases gk with
      | zero => exact absurd HA.out (by simp [kimberliteref03_Valid.l0])
      | succ k2 =>
       have H := HA.out; clear HA; simp only [kimberliteref03_Valid.l0] at H
       by_cases c14 : x3_2 < (l0_2.length : Int)
       · rw [if_pos c14] at H; have c14b0 : decide (x3_2 < (l0_2.length : Int)) = true := decide_eq_true c14; clear c14; have HC15 := Aside0.mk H; clear H; obtain ⟨hcz16_0, hcz16_1, hcz16_2, hfz16_0, hfz16_1, hfz16_2⟩ := cz3 BK158; go_upto_region 6 with (fail)
         repeat (go_quiet (fail); go_upto_region 6 with (fail))
         go_cut [66] (fun v66 wc => ∃ (kq : Nat) (x66_14 : Bool), v66 = .bool x66_14 ∧ Aside0 (kimberliteref03_Valid.j2 kq x3_2 x66_14 a0_0 a0_1 l0_2 = some r) ∧ Aside0 (kq ≤ k2) ∧ Aside0 (wc.heap[gb158]? = some (.cells #[.int .i64 a0_0, .int .i64 a0_1, (.slice A0_2 l0_2.length c0_2)] 24 (0, 0))) ∧ Aside0 (Below w.heap.size w wc))
         case first =>
          have H := HC15.out; clear HC15
          by_cases c17 : 0 ≤ x3_2
          · rw [if_pos c17] at H; have c17b0 : decide (0 ≤ x3_2) = true := decide_eq_true c17; clear c17; (first | rw [c17b0] | (simp only [i64_w, i32_w]; rw [c17b0]) | skip)
            by_cases c18 : (rd l0_2 x3_2) < (-1048576)
            · rw [if_pos c18] at H; have c18b0 : decide ((rd l0_2 x3_2) < (-1048576)) = true := decide_eq_true c18; clear c18; have H' := Aside0.mk H; clear H; obtain ⟨hcz19_0, hcz19_1, hcz19_2, hfz19_0, hfz19_1, hfz19_2⟩ := cz3 BK158; have p159 : 0 ≤ (x3_2 : Int) := of_decide_eq_true (by first | (with_reducible assumption) | assumption); have q159 : x3_2 < (l0_2.length : Int) := of_decide_eq_true (by first | (with_reducible assumption) | assumption); obtain ⟨ad159, e159, hx159_0⟩ := Kd.at_int HR0_2.out x3_2 p159 q159
              cases e159
              replace hx159_0 := (HB.out.cell (World.block_lt_of_cell? w _ hx159_0)).trans hx159_0; replace p159 := eq_true p159; replace q159 := eq_true q159; go_wp2
              repeat (go_quiet (fail); try go_wp2)
              go_meet
              case rel => exact ⟨_, (true), (by first | rfl | (simp; done) | (simp [*]; done)), H', ⟨by have := HJ1.out; have := HK2.out; first | omega | exact Nat.le_refl _⟩, ⟨nK BK158⟩, ⟨nC HB⟩⟩
            · rw [if_neg c18] at H; have c18b0 : decide ((rd l0_2 x3_2) < (-1048576)) = false := decide_eq_false c18; clear c18
              by_cases c20 : (rd l0_2 x3_2) > 1048576
              · rw [if_pos c20] at H; have c20b0 : decide (1048576 < (rd l0_2 x3_2)) = true := decide_eq_true c20; clear c20; have H' := Aside0.mk H; clear H; obtain ⟨hcz21_0, hcz21_1, hcz21_2, hfz21_0, hfz21_1, hfz21_2⟩ := cz3 BK158; have p159 : 0 ≤ (x3_2 : Int) := of_decide_eq_true (by first | (with_reducible assumption) | assumption); have q159 : x3_2 < (l0_2.length : Int) := of_decide_eq_true (by first | (with_reducible assumption) | assumption); obtain ⟨ad159, e159, hx159_0⟩ := Kd.at_int HR0_2.out x3_2 p159 q159
                cases e159
                replace hx159_0 := (HB.out.cell (World.block_lt_of_cell? w _ hx159_0)).trans hx159_0; replace p159 := eq_true p159; replace q159 := eq_true q159; have p160 : 0 ≤ (x3_2 : Int) := of_decide_eq_true (by first | (with_reducible assumption) | assumption); have q160 : x3_2 < (l0_2.length : Int) := of_decide_eq_true (by first | (with_reducible assumption) | assumption); obtain ⟨ad160, e160, hx160_0⟩ := Kd.at_int HR0_2.out x3_2 p160 q160; obtain rfl : ad159 = ad160 := (by injection e160); replace hx160_0 := (HB.out.cell (World.block_lt_of_cell? w _ hx160_0)).trans hx160_0; replace p160 := eq_true p160; replace q160 := eq_true q160; go_wp2
                repeat (go_quiet (fail); try go_wp2)
                go_meet
                case rel => exact ⟨_, (true), (by first | rfl | (simp; done) | (simp [*]; done)), H', ⟨by have := HJ1.out; have := HK2.out; first | omega | exact Nat.le_refl _⟩, ⟨nK BK158⟩, ⟨nC HB⟩⟩
              · rw [if_neg c20] at H; have c20b0 : decide (1048576 < (rd l0_2 x3_2)) = false := decide_eq_false c20; clear c20
                by_cases c22 : x3_2 > 0
                · rw [if_pos c22] at H; have c22b0 : decide (0 < x3_2) = true := decide_eq_true c22; clear c22; obtain ⟨ji23, hji23⟩ : ∃ j_ : Int, (wrap64 (x3_2 - 1)) = j_ := ⟨_, rfl⟩; replace H : (if 0 ≤ (ji23) then (if (ji23) < (l0_2.length : Int) then (kimberliteref03_Valid.j2 k2 x3_2 (decide ((rd l0_2 (ji23)) > (rd l0_2 x3_2))) a0_0 a0_1 l0_2) else (none)) else (none)) = some r := by first | (rw [hji23] at H; exact H) | (simp only [hji23] at H ⊢; exact H)
                  have hji23w : (IntKind.i64.wrap (x3_2 - 1)) = ji23 := (i64_w _).trans hji23
                  by_cases c24 : 0 ≤ (ji23)
                  · rw [if_pos c24] at H; have c24b0 : decide (0 ≤ (ji23)) = true := decide_eq_true c24; clear c24
                    by_cases c25 : (ji23) < (l0_2.length : Int)
                    · rw [if_pos c25] at H; have c25b0 : decide ((ji23) < (l0_2.length : Int)) = true := decide_eq_true c25; clear c25; have H' := Aside0.mk H; clear H; obtain ⟨hcz26_0, hcz26_1, hcz26_2, hfz26_0, hfz26_1, hfz26_2⟩ := cz3 BK158; have p159 : 0 ≤ (x3_2 : Int) := of_decide_eq_true (by first | (with_reducible assumption) | assumption); have q159 : x3_2 < (l0_2.length : Int) := of_decide_eq_true (by first | (with_reducible assumption) | assumption); obtain ⟨ad159, e159, hx159_0⟩ := Kd.at_int HR0_2.out x3_2 p159 q159
                      cases e159
                      replace hx159_0 := (HB.out.cell (World.block_lt_of_cell? w _ hx159_0)).trans hx159_0; replace p159 := eq_true p159; replace q159 := eq_true q159; have p160 : 0 ≤ (x3_2 : Int) := of_decide_eq_true (by first | (with_reducible assumption) | assumption); have q160 : x3_2 < (l0_2.length : Int) := of_decide_eq_true (by first | (with_reducible assumption) | assumption); obtain ⟨ad160, e160, hx160_0⟩ := Kd.at_int HR0_2.out x3_2 p160 q160; obtain rfl : ad159 = ad160 := (by injection e160); replace hx160_0 := (HB.out.cell (World.block_lt_of_cell? w _ hx160_0)).trans hx160_0; replace p160 := eq_true p160; replace q160 := eq_true q160; have p161 : 0 ≤ ((ji23) : Int) := of_decide_eq_true (by first | (with_reducible assumption) | assumption); have q161 : (ji23) < (l0_2.length : Int) := of_decide_eq_true (by first | (with_reducible assumption) | assumption); obtain ⟨ad161, e161, hx161_0⟩ := Kd.at_int HR0_2.out (ji23) p161 q161; obtain rfl : ad159 = ad161 := (by injection e161); replace hx161_0 := (HB.out.cell (World.block_lt_of_cell? w _ hx161_0)).trans hx161_0; replace p161 := eq_true p161; replace q161 := eq_true q161; have p162 : 0 ≤ (x3_2 : Int) := of_decide_eq_true (by first | (with_reducible assumption) | assumption); have q162 : x3_2 < (l0_2.length : Int) := of_decide_eq_true (by first | (with_reducible assumption) | assumption); obtain ⟨ad162, e162, hx162_0⟩ := Kd.at_int HR0_2.out x3_2 p162 q162; obtain rfl : ad159 = ad162 := (by injection e162); replace hx162_0 := (HB.out.cell (World.block_lt_of_cell? w _ hx162_0)).trans hx162_0; replace p162 := eq_true p162; replace q162 := eq_true q162; go_wp2
                      repeat (go_quiet (fail); try go_wp2)
                      go_meet
                      case rel => exact ⟨_, (decide ((rd l0_2 (ji23)) > (rd l0_2 x3_2))), (by first | rfl | (simp; done) | (simp only [← hji23] <;> (first | rfl | simp)) | (simp [*]; done)), H', ⟨by have := HJ1.out; have := HK2.out; first | omega | exact Nat.le_refl _⟩, ⟨nK BK158⟩, ⟨nC HB⟩⟩
                    · rw [if_neg c25] at H; exact absurd H (by simp)
                  · rw [if_neg c24] at H; exact absurd H (by simp)
                · rw [if_neg c22] at H; have c22b0 : decide (0 < x3_2) = false := decide_eq_false c22; clear c22; have H' := Aside0.mk H; clear H; obtain ⟨hcz27_0, hcz27_1, hcz27_2, hfz27_0, hfz27_1, hfz27_2⟩ := cz3 BK158; have p159 : 0 ≤ (x3_2 : Int) := of_decide_eq_true (by first | (with_reducible assumption) | assumption); have q159 : x3_2 < (l0_2.length : Int) := of_decide_eq_true (by first | (with_reducible assumption) | assumption); obtain ⟨ad159, e159, hx159_0⟩ := Kd.at_int HR0_2.out x3_2 p159 q159
                  cases e159
                  replace hx159_0 := (HB.out.cell (World.block_lt_of_cell? w _ hx159_0)).trans hx159_0; replace p159 := eq_true p159; replace q159 := eq_true q159; have p160 : 0 ≤ (x3_2 : Int) := of_decide_eq_true (by first | (with_reducible assumption) | assumption); have q160 : x3_2 < (l0_2.length : Int) := of_decide_eq_true (by first | (with_reducible assumption) | assumption); obtain ⟨ad160, e160, hx160_0⟩ := Kd.at_int HR0_2.out x3_2 p160 q160; obtain rfl : ad159 = ad160 := (by injection e160); replace hx160_0 := (HB.out.cell (World.block_lt_of_cell? w _ hx160_0)).trans hx160_0; replace p160 := eq_true p160; replace q160 := eq_true q160; go_wp2
                  repeat (go_quiet (fail); try go_wp2)
                  go_meet
                  case rel => exact ⟨_, (false), (by first | rfl | (simp; done) | (simp [*]; done)), H', ⟨by have := HJ1.out; have := HK2.out; first | omega | exact Nat.le_refl _⟩, ⟨nK BK158⟩, ⟨nC HB⟩⟩
          · rw [if_neg c17] at H; exact absurd H (by simp)
         case rest =>
          clear HC15; obtain ⟨kq, x66_14, rfl, HA, HJ14, BK158, HB⟩ := hcut
          cases kq with
          | zero => exact absurd HA.out (by simp [kimberliteref03_Valid.j2])
          | succ kj14 =>
           have H := HA.out; clear HA; simp only [kimberliteref03_Valid.j2] at H
           by_cases c28 : x66_14 = true
           · subst c28; replace H : (some false) = some r := by rw [if_pos rfl] at H; exact H
             obtain rfl := Option.some.inj H; go_wp2
             repeat (go_quiet (fail); try go_wp2)
             go_ret
             exact ⟨by first | rfl | (simp [errW_none, errW_some] <;> rfl) | (simp [*, errW_none, errW_some] <;> rfl), nC HB⟩
           · replace c28 := Bool.eq_false_iff.mpr c28; subst c28; replace H : (kimberliteref03_Valid.l0 kj14 (wrap64 (x3_2 + 1)) a0_0 a0_1 l0_2) = some r := by rw [if_neg (show ¬ (false = true) by decide)] at H; exact H
             have H' := Aside0.mk H; clear H; go_wp2
             repeat (go_quiet (fail); try go_wp2)
             go_roundg kj14
             case measure => have := HJ1.out; have := HK2.out; have := HJ14.out; omega
             case rel => exact ⟨(wrap64 (x3_2 + 1)), (by first | rfl | (simp; done) | (simp [*]; done)), H', ⟨by have := HJ1.out; have := HK2.out; have := HJ14.out; omega⟩, ⟨nK BK158⟩, ⟨nC HB⟩⟩
       · rw [if_neg c14] at H; have c14b0 : decide (x3_2 < (l0_2.length : Int)) = false := decide_eq_false c14; clear c14; obtain rfl := Option.some.inj H; obtain ⟨hcz29_0, hcz29_1, hcz29_2, hfz29_0, hfz29_1, hfz29_2⟩ := cz3 BK158; go_wp2
         repeat (go_quiet (fail); try go_wp2)
         go_ret
         exact ⟨by first | rfl | (simp [errW_none, errW_some] <;> rfl) | (simp [*, errW_none, errW_some] <;> rfl), nC HB⟩
end Go.Proofs.Ytingjpcgehgiiaa.Pr
end
section
namespace Go.Proofs.Ytingjpcgehgiiaa.Pr
open Go.RowKit Go.Proofs.YtingjpcgehgiiaaW.PrintWords Go.Proofs.YtingjpcgehgiiaaW.PrintLast Go.Proofs.YtingjpcgehgiiaaW.PrintMore
attribute [local go_sem] max2_int min2_int max_two min_two max_three min_three max_four min_four   -- for this text's walks alone
set_option linter.unusedVariables false
set_option linter.unusedSimpArgs false
def kimberliteref03_Row_has.f (a0_0 : Int) (l0_1 : List Int) (a1 : Int) : Option (Bool) := if a1 ≥ a0_0 then ((kimberliteref03_Row_To.f a0_0 l0_1).bind fun t164 => (some (decide (a1 ≤ t164)))) else (some false)
set_option maxHeartbeats 8000000 in
set_option maxRecDepth 100000 in
theorem kimberliteref03_Row_has.calls (a0_0 : Int) (A0_1 : Option Addr) (c0_1 : Nat) (l0_1 : List Int) (a1 : Int) (r : Bool) (w : World) (hr0_1 : Kd.C (Kd.int .i64) w A0_1 l0_1.length l0_1) (hc0_1 : l0_1.length ≤ c0_1) (h : kimberliteref03_Row_has.f a0_0 l0_1 a1 = some r) :
 Calls Try.prog 67 #[.agg #[.int .i64 a0_0, .slice A0_1 l0_1.length c0_1], .int .i64 a1] w fun e w' => e = .returned (.bool r) ∧ Below w.heap.size w w' := by
 have hu78 := Try.underlying78; have HR0_1 := Aside0.mk hr0_1; have HC0_1 := Aside0.mk hc0_1; clear hr0_1 hc0_1; have HB := Aside0.mk (Below.refl w.heap.size w); have H : (if a1 ≥ a0_0 then ((kimberliteref03_Row_To.f a0_0 l0_1).bind fun t164 => (some (decide (a1 ≤ t164)))) else (some false)) = some r := h; clear h
 by_cases c3 : a1 ≥ a0_0
 · rw [if_pos c3] at H; have c3b0 : decide (a0_0 ≤ a1) = true := decide_eq_true c3; clear c3; replace H := Option.bind_eq_some_iff.mp H; obtain ⟨t164, A40, H⟩ := H; replace H : (some (decide (a1 ≤ t164))) = some r := H; have A4 := Aside0.mk A40; clear A40; obtain rfl := Option.some.inj H; go_enter Try.func67, Try.ntmps67
   go_wp2_with (first | ((with_reducible refine gate_dst (N := 2) rfl ?_); refine box_event ?hg (N := 2) ?hd (cs := #[.int .i64 a0_0, .slice A0_1 l0_1.length c0_1]) (t := 78) ?hr ?_; (case hd => rfl); (case hg => rfl); (case hr => first | (go_simp; done) | (go_simp; rfl)); intro gb163 hg w5 hbox hb; have BK163 := Aside0.mk (hbox); have GW163 := Aside0.mk ((by rw [hg]; exact (below_size (nC HB)) : w.heap.size ≤ gb163)); have GE163 := Aside0.mk ((by rw [hg]; exact (below_size (nC HB)) : w.heap.size ≤ gb163)); replace HB := Aside0.mk (below_step (nC HB) hb); clear hb hbox hg; obtain ⟨hcz6_0, hcz6_1, hfz6_0, hfz6_1⟩ := cz2 BK163) | (go_at_call 65; (with_reducible refine (kimberliteref03_Row_To.calls a0_0 _ _ l0_1 t164 _ ?side1 ?side2 A4.out).mono ?_); (case side1 => exact nS HR0_1 HB); (case side2 => exact HC0_1.out); rintro e w7 ⟨rfl, hb⟩; replace BK163 := Aside0.mk (nB BK163 hb); replace HB := Aside0.mk (below_step (nC HB) hb); (try clear hb); (try clear hb2); (try clear hk); (try clear hi)))
   go_ret
   exact ⟨by first | rfl | (simp [errW_none, errW_some] <;> rfl) | (simp [*, errW_none, errW_some] <;> rfl), nC HB⟩
 · rw [if_neg c3] at H; have c3b0 : decide (a0_0 ≤ a1) = false := decide_eq_false c3; clear c3; obtain rfl := Option.some.inj H; go_enter Try.func67, Try.ntmps67
   go_wp2_with (first | ((with_reducible refine gate_dst (N := 2) rfl ?_); refine box_event ?hg (N := 2) ?hd (cs := #[.int .i64 a0_0, .slice A0_1 l0_1.length c0_1]) (t := 78) ?hr ?_; (case hd => rfl); (case hg => rfl); (case hr => first | (go_simp; done) | (go_simp; rfl)); intro gb163 hg w8 hbox hb; have BK163 := Aside0.mk (hbox); have GW163 := Aside0.mk ((by rw [hg]; exact (below_size (nC HB)) : w.heap.size ≤ gb163)); have GE163 := Aside0.mk ((by rw [hg]; exact (below_size (nC HB)) : w.heap.size ≤ gb163)); replace HB := Aside0.mk (below_step (nC HB) hb); clear hb hbox hg; obtain ⟨hcz9_0, hcz9_1, hfz9_0, hfz9_1⟩ := cz2 BK163))
   go_ret
   exact ⟨by first | rfl | (simp [errW_none, errW_some] <;> rfl) | (simp [*, errW_none, errW_some] <;> rfl), nC HB⟩
end Go.Proofs.Ytingjpcgehgiiaa.Pr
end
section
namespace Go.Proofs.Ytingjpcgehgiiaa.Pr
open Go.RowKit Go.Proofs.YtingjpcgehgiiaaW.PrintWords Go.Proofs.YtingjpcgehgiiaaW.PrintLast Go.Proofs.YtingjpcgehgiiaaW.PrintMore
attribute [local go_sem] max2_int min2_int max_two min_two max_three min_three max_four min_four   -- for this text's walks alone
set_option linter.unusedVariables false
set_option linter.unusedSimpArgs false
def kimberlitelaw03_few.f (a0_0 : Int) (a0_1 : Int) (l0_2 : List Int) : Option (Bool) := some (decide ((l0_2.length : Int) ≤ 100))
set_option maxHeartbeats 8000000 in
set_option maxRecDepth 100000 in
theorem kimberlitelaw03_few.calls (a0_0 : Int) (a0_1 : Int) (A0_2 : Option Addr) (c0_2 : Nat) (l0_2 : List Int) (r : Bool) (w : World) (hr0_2 : Kd.C (Kd.int .i64) w A0_2 l0_2.length l0_2) (hc0_2 : l0_2.length ≤ c0_2) (h : kimberlitelaw03_few.f a0_0 a0_1 l0_2 = some r) :
 Calls Try.prog 22 #[.agg #[.int .i64 a0_0, .int .i64 a0_1, .slice A0_2 l0_2.length c0_2]] w fun e w' => e = .returned (.bool r) ∧ Below w.heap.size w w' := by
 have hu24 := Try.underlying24; have HR0_2 := Aside0.mk hr0_2; have HC0_2 := Aside0.mk hc0_2; clear hr0_2 hc0_2; have HB := Aside0.mk (Below.refl w.heap.size w); have H : (some (decide ((l0_2.length : Int) ≤ 100))) = some r := h; clear h; obtain rfl := Option.some.inj H; go_enter Try.func22, Try.ntmps22
 go_wp2_with (first | ((with_reducible refine gate_dst (N := 1) rfl ?_); refine box_event ?hg (N := 1) ?hd (cs := #[.int .i64 a0_0, .int .i64 a0_1, .slice A0_2 l0_2.length c0_2]) (t := 24) ?hr ?_; (case hd => rfl); (case hg => rfl); (case hr => first | (go_simp; done) | (go_simp; rfl)); intro gb468 hg w2 hbox hb; have BK468 := Aside0.mk (hbox); have GW468 := Aside0.mk ((by rw [hg]; exact (below_size (nC HB)) : w.heap.size ≤ gb468)); have GE468 := Aside0.mk ((by rw [hg]; exact (below_size (nC HB)) : w.heap.size ≤ gb468)); replace HB := Aside0.mk (below_step (nC HB) hb); clear hb hbox hg; obtain ⟨hcz3_0, hcz3_1, hcz3_2, hfz3_0, hfz3_1, hfz3_2⟩ := cz3 BK468))
 go_ret
 exact ⟨by first | rfl | (simp [errW_none, errW_some] <;> rfl) | (simp [*, errW_none, errW_some] <;> rfl), nC HB⟩
end Go.Proofs.Ytingjpcgehgiiaa.Pr
end
section
namespace Go.Proofs.Ytingjpcgehgiiaa.Pr
open Go.RowKit Go.Proofs.YtingjpcgehgiiaaW.PrintWords Go.Proofs.YtingjpcgehgiiaaW.PrintLast Go.Proofs.YtingjpcgehgiiaaW.PrintMore
set_option linter.unusedVariables false
set_option linter.unusedSimpArgs false
theorem sortedI_of {l : List Int} (h : ∀ j, j + 1 < l.length → rd l (j : Int) ≤ rd l ((j + 1 : Nat) : Int)) : sortedI l = true := by
  unfold sortedI
  rw [sortedTo_iff]
  exact fun j hj => h j (by omega)
theorem sortedI_at {l : List Int} (hs : sortedI l = true) {j : Nat} (hj : j + 1 < l.length) : rd l (j : Int) ≤ rd l ((j + 1 : Nat) : Int) := by
  unfold sortedI at hs
  exact (sortedTo_iff l _).1 hs j (by omega)
theorem vc_iff (c : S24) : Vc c ↔ (-1048576 ≤ c.f0 ∧ c.f0 ≤ 1048576 ∧ -1099511627776 ≤ c.f1 ∧ c.f1 ≤ 1099511627776 ∧ c.f2.length ≤ 64) ∧ (∀ j : Nat, j < c.f2.length → -1048576 ≤ rd c.f2 (j : Int) ∧ rd c.f2 (j : Int) ≤ 1048576) ∧ (∀ j : Nat, j + 1 < c.f2.length → rd c.f2 (j : Int) ≤ rd c.f2 ((j + 1 : Nat) : Int)) := by
  constructor
  · intro h
    obtain ⟨h1, h2, h3, h4, h5, h6, h7⟩ := vc_parts h
    exact ⟨⟨h1, h2, h3, h4, h5⟩, fun j hj => by rw [rd_nat _ _ hj]; exact h7 _ (List.getElem_mem hj), fun j hj => sortedI_at h6 hj⟩
  · rintro ⟨⟨h1, h2, h3, h4, h5⟩, h6, h7⟩
    unfold Vc validC inB
    simp only [Bool.and_eq_true, decide_eq_true_eq, Bool.not_eq_true', List.any_eq_false]
    refine ⟨⟨h1, h2⟩, ⟨h3, h4⟩, h5, sortedI_of h7, fun s hs => ?_⟩
    obtain ⟨j, hj, rfl⟩ := List.mem_iff_getElem.1 hs
    have := h6 j hj
    rw [rd_nat _ _ hj] at this
    simpa using this
theorem rv_next (k : Nat) (c : S24) {i : Nat} (hi : i < c.f2.length) (h64 : c.f2.length ≤ 64) (h1 : -1048576 ≤ rd c.f2 (i : Int)) (h2 : rd c.f2 (i : Int) ≤ 1048576) (h3 : ∀ j : Nat, j + 1 = i → rd c.f2 (j : Int) ≤ rd c.f2 (i : Int)) :
    kimberliteref03_Valid.l0 (k + 2) (i : Int) c.f0 c.f1 c.f2 = kimberliteref03_Valid.l0 k ((i + 1 : Nat) : Int) c.f0 c.f1 c.f2 := by
  have e2 := succ_w64 (i := i) (by omega)
  have q1 : (i : Int) < (c.f2.length : Int) := by omega
  have q2 : 0 ≤ (i : Int) := by omega
  have q3 : ¬rd c.f2 (i : Int) < -1048576 := by omega
  have q4 : ¬rd c.f2 (i : Int) > 1048576 := by omega
  simp only [kimberliteref03_Valid.l0]
  rw [if_pos q1, if_pos q2, if_neg q3, if_neg q4]
  by_cases h0 : i = 0
  · subst h0
    rw [if_neg (by simp)]
    simp only [kimberliteref03_Valid.j2]
    rw [if_neg (by simp), e2]
  · obtain ⟨j, rfl⟩ : ∃ j, i = j + 1 := ⟨i - 1, by omega⟩
    have e1 := pred_w64 (i := j) (by omega)
    have q5 : ((j + 1 : Nat) : Int) > 0 := by omega
    have q6 : 0 ≤ (j : Int) := by omega
    have q7 : (j : Int) < (c.f2.length : Int) := by omega
    have q8 : ¬rd c.f2 (j : Int) > rd c.f2 ((j + 1 : Nat) : Int) := by have := h3 j rfl; omega
    rw [if_pos q5, e1, if_pos q6, if_pos q7, decide_eq_false q8]
    simp only [kimberliteref03_Valid.j2]
    rw [if_neg (by simp), e2]
theorem rv_bad (k : Nat) (c : S24) {i : Nat} (hi : i < c.f2.length) (h64 : c.f2.length ≤ 64) (hb : rd c.f2 (i : Int) < -1048576 ∨ 1048576 < rd c.f2 (i : Int) ∨ ∃ j : Nat, j + 1 = i ∧ rd c.f2 (i : Int) < rd c.f2 (j : Int)) :
    kimberliteref03_Valid.l0 (k + 2) (i : Int) c.f0 c.f1 c.f2 = some false := by
  have q1 : (i : Int) < (c.f2.length : Int) := by clear hb; omega
  have q2 : 0 ≤ (i : Int) := by clear hb; omega
  simp only [kimberliteref03_Valid.l0]
  rw [if_pos q1, if_pos q2]
  by_cases h1 : rd c.f2 (i : Int) < -1048576
  · rw [if_pos h1]
    simp only [kimberliteref03_Valid.j2]
    rw [if_pos trivial]
  · rw [if_neg h1]
    by_cases h2 : rd c.f2 (i : Int) > 1048576
    · rw [if_pos h2]
      simp only [kimberliteref03_Valid.j2]
      rw [if_pos trivial]
    · rw [if_neg h2]
      obtain ⟨j, rfl, h3⟩ : ∃ j : Nat, j + 1 = i ∧ rd c.f2 (i : Int) < rd c.f2 (j : Int) := by
        rcases hb with h | h | h
        · exact absurd h h1
        · exact absurd h h2
        · exact h
      have e1 := pred_w64 (i := j) (by omega)
      have q5 : ((j + 1 : Nat) : Int) > 0 := by omega
      have q6 : 0 ≤ (j : Int) := by omega
      have q7 : (j : Int) < (c.f2.length : Int) := by omega
      rw [if_pos q5, e1, if_pos q6, if_pos q7, decide_eq_true h3]
      simp only [kimberliteref03_Valid.j2]
      rw [if_pos trivial]
theorem rv_loop {c : S24} (h0 : -1048576 ≤ c.f0 ∧ c.f0 ≤ 1048576 ∧ -1099511627776 ≤ c.f1 ∧ c.f1 ≤ 1099511627776 ∧ c.f2.length ≤ 64) : ∀ (n i : Nat), i + n = c.f2.length → (∀ j : Nat, j < i → -1048576 ≤ rd c.f2 (j : Int) ∧ rd c.f2 (j : Int) ≤ 1048576) → (∀ j : Nat, j + 1 < i → rd c.f2 (j : Int) ≤ rd c.f2 ((j + 1 : Nat) : Int)) →
    Ev (fun k => kimberliteref03_Valid.l0 k (i : Int) c.f0 c.f1 c.f2) (decide (Vc c))
  | 0, i, hi, h1, h2 => by
    have e : i = c.f2.length := by omega
    subst e
    rw [decide_eq_true ((vc_iff c).2 ⟨h0, h1, h2⟩)]
    refine Ev.step (f := fun _ => some true) (fun k => ?_) (Ev.now _)
    simp only [kimberliteref03_Valid.l0]
    rw [if_neg (by omega)]
  | n + 1, i, hi, h1, h2 => by
    have hl : i < c.f2.length := by omega
    by_cases hb : rd c.f2 (i : Int) < -1048576 ∨ 1048576 < rd c.f2 (i : Int) ∨ ∃ j : Nat, j + 1 = i ∧ rd c.f2 (i : Int) < rd c.f2 (j : Int)
    · have hn : ¬Vc c := fun h => by
        obtain ⟨_, h3, h4⟩ := (vc_iff c).1 h
        have a := h3 i hl
        rcases hb with hb | hb | ⟨j, rfl, hb⟩
        · omega
        · omega
        · have := h4 j hl; omega
      rw [decide_eq_false hn]
      exact Ev.two (f := fun _ => some false) (fun k => rv_bad k c hl h0.2.2.2.2 hb) (Ev.now _)
    · have b1 : -1048576 ≤ rd c.f2 (i : Int) := Int.not_lt.1 fun h => hb (.inl h)
      have b2 : rd c.f2 (i : Int) ≤ 1048576 := Int.not_lt.1 fun h => hb (.inr (.inl h))
      have b3 : ∀ j : Nat, j + 1 = i → rd c.f2 (j : Int) ≤ rd c.f2 (i : Int) := fun j hj => Int.not_lt.1 fun h => hb (.inr (.inr ⟨j, hj, h⟩))
      refine Ev.two (fun k => rv_next k c hl h0.2.2.2.2 b1 b2 b3) (rv_loop h0 n (i + 1) (by omega) (fun j hj => ?_) (fun j hj => ?_))
      · by_cases e : j = i
        · subst e; exact ⟨b1, b2⟩
        · exact h1 j (by omega)
      · by_cases e : j + 1 = i
        · have := b3 j e
          rw [e]
          exact this
        · exact h2 j (by omega)
theorem rvalid_ev (c : S24) : Ev (fun k => kimberliteref03_Valid.f k c.f0 c.f1 c.f2) (decide (Vc c)) := by
  have bad : ¬Vc c → Ev (fun k => kimberliteref03_Valid.j0 k true c.f0 c.f1 c.f2) (decide (Vc c)) := fun hn => by
    rw [decide_eq_false hn]
    exact Ev.step (f := fun _ => some false) (fun k => by simp only [kimberliteref03_Valid.j0]; rw [if_pos trivial]) (Ev.now _)
  unfold kimberliteref03_Valid.f
  by_cases h1 : c.f0 < -1048576
  · exact Ev.congr (fun k => if_pos h1) (bad fun h => by have := ((vc_iff c).1 h).1; omega)
  refine Ev.congr (fun k => if_neg h1) ?_
  by_cases h2 : c.f0 > 1048576
  · exact Ev.congr (fun k => if_pos h2) (bad fun h => by have := ((vc_iff c).1 h).1; omega)
  refine Ev.congr (fun k => if_neg h2) ?_
  by_cases h3 : c.f1 < -1099511627776
  · exact Ev.congr (fun k => if_pos h3) (bad fun h => by have := ((vc_iff c).1 h).1; omega)
  refine Ev.congr (fun k => if_neg h3) ?_
  by_cases h4 : c.f1 > 1099511627776
  · exact Ev.congr (fun k => if_pos h4) (bad fun h => by have := ((vc_iff c).1 h).1; omega)
  refine Ev.congr (fun k => if_neg h4) ?_
  by_cases h5 : (c.f2.length : Int) > 64
  · rw [decide_eq_true h5]
    exact bad fun h => by have := ((vc_iff c).1 h).1; omega
  · rw [decide_eq_false h5]
    have hl := rv_loop (c := c) ⟨by omega, by omega, by omega, by omega, by omega⟩ c.f2.length 0 (by omega) (fun j hj => by omega) (fun j hj => by omega)
    refine Ev.step (fun k => ?_) hl
    simp only [kimberliteref03_Valid.j0]
    rw [if_neg (by simp)]
    rfl
end Go.Proofs.Ytingjpcgehgiiaa.Pr
end
section
namespace Go.Proofs.Ytingjpcgehgiiaa.Pr
open Go.RowKit Go.Proofs.YtingjpcgehgiiaaW.PrintWords Go.Proofs.YtingjpcgehgiiaaW.PrintLast Go.Proofs.YtingjpcgehgiiaaW.PrintMore
attribute [local go_sem] max2_int min2_int max_two min_two max_three min_three max_four min_four   -- for this text's walks alone
set_option linter.unusedVariables false
set_option linter.unusedSimpArgs false
mutual
def kimberliteref03_Joined.l0 : Nat → Int → Int → List Int → Int → List Int → Int → List Int → Option (Int × List Int)
 | 0, _, _, _, _, _, _, _ => none
 | k + 1, x6, x236000, x236001, x237000, x237001, x239000, x239001 => (kimberliteref03_Row_To.f x236000 x236001).bind fun t239 => ((kimberliteref03_Row_To.f x237000 x237001).bind fun t240 => (if x6 ≤ (wrap64 (t239 + t240)) then (kimberliteref03_Joined.l1 k x6 0 false x236000 x236000 x236001 x237000 x237001 x239000 x239001) else (some (x239000, x239001))))
def kimberliteref03_Joined.l1 : Nat → Int → Int → Bool → Int → Int → List Int → Int → List Int → Int → List Int → Option (Int × List Int)
 | 0, _, _, _, _, _, _, _, _, _, _ => none
 | k + 1, x6, x7, x8, x9, x236000, x236001, x237000, x237001, x239000, x239001 => (kimberliteref03_Row_To.f x236000 x236001).bind fun t241 => (if x9 ≤ t241 then ((kimberliteref03_Row_has.f x237000 x237001 (wrap64 (x6 - x9))).bind fun t245 => (if t245 = true then ((kimberliteref03_Row_Value.f x236000 x236001 x9).bind fun t246 => ((kimberliteref03_Row_Value.f x237000 x237001 (wrap64 (x6 - x9))).bind fun t247 => (if x8 = true then (kimberliteref03_Joined.j2 k x6 x7 x8 x9 (wrap64 (t246 + t247)) (decide ((wrap64 (t246 + t247)) < x7)) x236000 x236001 x237000 x237001 x239000 x239001) else (kimberliteref03_Joined.j2 k x6 x7 x8 x9 (wrap64 (t246 + t247)) true x236000 x236001 x237000 x237001 x239000 x239001)))) else (kimberliteref03_Joined.l1 k x6 x7 x8 (wrap64 (x9 + 1)) x236000 x236001 x237000 x237001 x239000 x239001))) else (if x239001.length < 17592186044416 then (kimberliteref03_Joined.l0 k (wrap64 (x6 + 1)) x236000 x236001 x237000 x237001 x239000 (x239001 ++ [x7])) else (none)))
def kimberliteref03_Joined.j2 : Nat → Int → Int → Bool → Int → Int → Bool → Int → List Int → Int → List Int → Int → List Int → Option (Int × List Int)
 | 0, _, _, _, _, _, _, _, _, _, _, _, _ => none
 | k + 1, x6, x7, x8, x9, x10, x57, x236000, x236001, x237000, x237001, x239000, x239001 => if x57 = true then (kimberliteref03_Joined.l1 k x6 x10 true (wrap64 (x9 + 1)) x236000 x236001 x237000 x237001 x239000 x239001) else (kimberliteref03_Joined.l1 k x6 x7 x8 (wrap64 (x9 + 1)) x236000 x236001 x237000 x237001 x239000 x239001)
end
def kimberliteref03_Joined.f (k : Nat) (a0_0 : Int) (l0_1 : List Int) (a1_0 : Int) (l1_1 : List Int) : Option (Int × List Int) := kimberliteref03_Joined.l0 k (wrap64 (a0_0 + a1_0)) a0_0 l0_1 a1_0 l1_1 (wrap64 (a0_0 + a1_0)) ([] : List Int)
theorem kimberliteref03_Joined.mono_l : ∀ k, (∀ y0 y1 y2 y3 y4 y5 y6, LeO (kimberliteref03_Joined.l0 k y0 y1 y2 y3 y4 y5 y6) (kimberliteref03_Joined.l0 (k + 1) y0 y1 y2 y3 y4 y5 y6)) ∧ (∀ y0 y1 y2 y3 y4 y5 y6 y7 y8 y9, LeO (kimberliteref03_Joined.l1 k y0 y1 y2 y3 y4 y5 y6 y7 y8 y9) (kimberliteref03_Joined.l1 (k + 1) y0 y1 y2 y3 y4 y5 y6 y7 y8 y9)) ∧ (∀ y0 y1 y2 y3 y4 y5 y6 y7 y8 y9 y10 y11, LeO (kimberliteref03_Joined.j2 k y0 y1 y2 y3 y4 y5 y6 y7 y8 y9 y10 y11) (kimberliteref03_Joined.j2 (k + 1) y0 y1 y2 y3 y4 y5 y6 y7 y8 y9 y10 y11))
 | 0 => ⟨fun _ _ _ _ _ _ _ r h => by simp [kimberliteref03_Joined.l0] at h, fun _ _ _ _ _ _ _ _ _ _ r h => by simp [kimberliteref03_Joined.l1] at h, fun _ _ _ _ _ _ _ _ _ _ _ _ r h => by simp [kimberliteref03_Joined.j2] at h⟩
 | k + 1 => by
  obtain ⟨ih0, ih1, ih2⟩ := kimberliteref03_Joined.mono_l k; refine ⟨?_, ?_, ?_⟩
  · intro y0 y1 y2 y3 y4 y5 y6; unfold kimberliteref03_Joined.l0
    repeat' first
    | (with_reducible exact ih0 _ _ _ _ _ _ _)
    | (with_reducible exact ih1 _ _ _ _ _ _ _ _ _ _)
    | (with_reducible exact ih2 _ _ _ _ _ _ _ _ _ _ _ _)
    | (with_reducible exact LeO.refl _)
    | (with_reducible exact LeO.none _)
    | (with_reducible refine LeO.ite ?_ ?_)
    | (with_reducible refine LeO.bind ?_ (fun _ => ?_))
    | exact ih0 _ _ _ _ _ _ _
    | exact ih1 _ _ _ _ _ _ _ _ _ _
    | exact ih2 _ _ _ _ _ _ _ _ _ _ _ _
    | exact LeO.none _
    | refine LeO.ite ?_ ?_
    | refine LeO.bind ?_ (fun _ => ?_)
  · intro y0 y1 y2 y3 y4 y5 y6 y7 y8 y9; unfold kimberliteref03_Joined.l1
    repeat' first
    | (with_reducible exact ih0 _ _ _ _ _ _ _)
    | (with_reducible exact ih1 _ _ _ _ _ _ _ _ _ _)
    | (with_reducible exact ih2 _ _ _ _ _ _ _ _ _ _ _ _)
    | (with_reducible exact LeO.refl _)
    | (with_reducible exact LeO.none _)
    | (with_reducible refine LeO.ite ?_ ?_)
    | (with_reducible refine LeO.bind ?_ (fun _ => ?_))
    | exact ih0 _ _ _ _ _ _ _
    | exact ih1 _ _ _ _ _ _ _ _ _ _
    | exact ih2 _ _ _ _ _ _ _ _ _ _ _ _
    | exact LeO.none _
    | refine LeO.ite ?_ ?_
    | refine LeO.bind ?_ (fun _ => ?_)
  · intro y0 y1 y2 y3 y4 y5 y6 y7 y8 y9 y10 y11; unfold kimberliteref03_Joined.j2
    repeat' first
    | (with_reducible exact ih0 _ _ _ _ _ _ _)
    | (with_reducible exact ih1 _ _ _ _ _ _ _ _ _ _)
    | (with_reducible exact ih2 _ _ _ _ _ _ _ _ _ _ _ _)
    | (with_reducible exact LeO.refl _)
    | (with_reducible exact LeO.none _)
    | (with_reducible refine LeO.ite ?_ ?_)
    | (with_reducible refine LeO.bind ?_ (fun _ => ?_))
    | exact ih0 _ _ _ _ _ _ _
    | exact ih1 _ _ _ _ _ _ _ _ _ _
    | exact ih2 _ _ _ _ _ _ _ _ _ _ _ _
    | exact LeO.none _
    | refine LeO.ite ?_ ?_
    | refine LeO.bind ?_ (fun _ => ?_)
theorem kimberliteref03_Joined.mono : ∀ a0 a1 a2 a3 k, LeO (kimberliteref03_Joined.f k a0 a1 a2 a3) (kimberliteref03_Joined.f (k + 1) a0 a1 a2 a3) := by
 intro a0 a1 a2 a3 k; obtain ⟨ih0, ih1, ih2⟩ := kimberliteref03_Joined.mono_l k; unfold kimberliteref03_Joined.f
 repeat' first
  | (with_reducible exact ih0 _ _ _ _ _ _ _)
  | (with_reducible exact ih1 _ _ _ _ _ _ _ _ _ _)
  | (with_reducible exact ih2 _ _ _ _ _ _ _ _ _ _ _ _)
  | (with_reducible exact LeO.refl _)
  | (with_reducible exact LeO.none _)
  | (with_reducible refine LeO.ite ?_ ?_)
  | (with_reducible refine LeO.bind ?_ (fun _ => ?_))
  | exact ih0 _ _ _ _ _ _ _
  | exact ih1 _ _ _ _ _ _ _ _ _ _
  | exact ih2 _ _ _ _ _ _ _ _ _ _ _ _
  | exact LeO.none _
  | refine LeO.ite ?_ ?_
  | refine LeO.bind ?_ (fun _ => ?_)
def kimberliteref03_Joined.T10 : Bool × List (List Nat × List Nat) := (true, [([], []), ([], []), ([0, 1], [0, 1]), ([], []), ([], []), ([], []), ([4, 5], [4, 5]), ([3, 6, 2], [3, 6]), ([2, 7], [2, 7]), ([8, 7, 0, 1, 2, 3, 4, 5, 6, 7, 8], [8])])
def kimberliteref03_Joined.B10 : List Nat := [0, 0, 3, 0, 0, 0, 48, 127, 255, 511]
theorem kimberliteref03_Joined.tab10 : rtab .any (opsOf Try.f66 10) = kimberliteref03_Joined.T10 := by kernel_rfl
theorem kimberliteref03_Joined.bits10 : waitsOk kimberliteref03_Joined.T10.2 kimberliteref03_Joined.B10 = true := by kernel_rfl
set_option maxHeartbeats 8000000 in
set_option maxRecDepth 100000 in
theorem kimberliteref03_Joined.calls (k : Nat) (a0_0 : Int) (A0_1 : Option Addr) (c0_1 : Nat) (l0_1 : List Int) (a1_0 : Int) (A1_1 : Option Addr) (c1_1 : Nat) (l1_1 : List Int) (r1 : Int) (r2 : List Int) (w : World) (hr0_1 : Kd.C (Kd.int .i64) w A0_1 l0_1.length l0_1) (hc0_1 : l0_1.length ≤ c0_1) (hr1_1 : Kd.C (Kd.int .i64) w A1_1 l1_1.length l1_1) (hc1_1 : l1_1.length ≤ c1_1) (h : kimberliteref03_Joined.f k a0_0 l0_1 a1_0 l1_1 = some (r1, r2)) :
 Calls Try.prog 66 #[.agg #[.int .i64 a0_0, .slice A0_1 l0_1.length c0_1], .agg #[.int .i64 a1_0, .slice A1_1 l1_1.length c1_1]] w fun e w' => ∃ v1_ : Value, e = .returned (.agg #[.int .i64 r1, v1_]) ∧ Kd.R (Kd.int .i64) 3 w' w.heap.size (fun _ => True) v1_ r2 ∧ Below w.heap.size w w' := by
 have hu78 := Try.underlying78; have HR0_1 := Aside0.mk hr0_1; have HC0_1 := Aside0.mk hc0_1; clear hr0_1 hc0_1; have HR1_1 := Aside0.mk hr1_1; have HC1_1 := Aside0.mk hc1_1; clear hr1_1 hc1_1; have HB := Aside0.mk (Below.refl w.heap.size w); have H : (kimberliteref03_Joined.l0 k (wrap64 (a0_0 + a1_0)) a0_0 l0_1 a1_0 l1_1 (wrap64 (a0_0 + a1_0)) ([] : List Int)) = some (r1, r2) := h; clear h; have H' := Aside0.mk H; clear H; go_enter Try.func66, Try.ntmps66
 go_wp2_with (first | ((with_reducible refine gate_dst (N := 2) rfl ?_); refine box_event ?hg (N := 2) ?hd (cs := #[.int .i64 a0_0, .slice A0_1 l0_1.length c0_1]) (t := 78) ?hr ?_; (case hd => rfl); (case hg => rfl); (case hr => first | (go_simp; done) | (go_simp; rfl)); intro gb235 hg w3 hbox hb; have BK235 := Aside0.mk (hbox); have GW235 := Aside0.mk ((by rw [hg]; exact (below_size (nC HB)) : w.heap.size ≤ gb235)); have GE235 := Aside0.mk ((by rw [hg]; exact (below_size (nC HB)) : w.heap.size ≤ gb235)); replace HB := Aside0.mk (below_step (nC HB) hb); clear hb hbox hg) | ((with_reducible refine gate_dst (N := 3) rfl ?_); refine box_event ?hg (N := 3) ?hd (cs := #[.int .i64 a1_0, .slice A1_1 l1_1.length c1_1]) (t := 78) ?hr ?_; (case hd => rfl); (case hg => rfl); (case hr => first | (go_simp; done) | (go_simp; rfl)); intro gb236 hg w4 hbox hb; have BK236 := Aside0.mk (hbox); have GW236 := Aside0.mk ((by rw [hg]; exact (below_size (nC HB)) : w.heap.size ≤ gb236)); have GE236 := Aside0.mk ((by rw [hg]; exact (below_size (nC HB)) : w.heap.size ≤ gb236)); replace HB := Aside0.mk (below_step (nC HB) hb); have NB235_236 := Aside0.mk ((by rw [hg]; exact Nat.ne_of_lt (blk_lt (nK BK235)) : gb235 ≠ gb236)); have NB236_235 := Aside0.mk ((by rw [hg]; exact Nat.ne_of_gt (blk_lt (nK BK235)) : gb236 ≠ gb235)); replace BK235 := Aside0.mk (nB BK235 hb); clear hb hbox hg) | ((with_reducible refine gate_dst (N := 4) rfl ?_); refine box_event ?hg (N := 4) ?hd (cs := #[.int .i64 0, .slice none 0 0]) (t := 78) ?hr ?_; (case hd => rfl); (case hg => rfl); (case hr => first | (go_simp; done) | (go_simp; rfl)); intro gb237 hg w5 hbox hb; have BK237 := Aside0.mk (hbox); have GW237 := Aside0.mk ((by rw [hg]; exact (below_size (nC HB)) : w.heap.size ≤ gb237)); have GE237 := Aside0.mk ((by rw [hg]; exact (below_size (nC HB)) : w.heap.size ≤ gb237)); replace HB := Aside0.mk (below_step (nC HB) hb); have NB235_237 := Aside0.mk ((by rw [hg]; exact Nat.ne_of_lt (blk_lt (nK BK235)) : gb235 ≠ gb237)); have NB237_235 := Aside0.mk ((by rw [hg]; exact Nat.ne_of_gt (blk_lt (nK BK235)) : gb237 ≠ gb235)); replace BK235 := Aside0.mk (nB BK235 hb); have NB236_237 := Aside0.mk ((by rw [hg]; exact Nat.ne_of_lt (blk_lt (nK BK236)) : gb236 ≠ gb237)); have NB237_236 := Aside0.mk ((by rw [hg]; exact Nat.ne_of_gt (blk_lt (nK BK236)) : gb237 ≠ gb236)); replace BK236 := Aside0.mk (nB BK236 hb); clear hb hbox hg; have hnb6 := NB235_236.out; have hnc6 := NB236_235.out; have hnb7 := NB235_237.out; have hnc7 := NB237_235.out; obtain ⟨hcz8_0, hcz8_1, hfz8_0, hfz8_1⟩ := cz2 BK235; have hnb9 := NB236_237.out; have hnc9 := NB237_236.out; obtain ⟨hcz10_0, hcz10_1, hfz10_0, hfz10_1⟩ := cz2 BK236) | ((with_reducible refine gate_dst (N := 5) rfl ?_); refine box_event ?hg (N := 5) ?hd (cs := #[.int .i64 0, .slice none 0 0]) (t := 78) ?hr ?_; (case hd => rfl); (case hg => rfl); (case hr => first | (go_simp; done) | (go_simp; rfl)); intro gb238 hg w11 hbox hb; have BK238 := Aside0.mk (hbox); have GW238 := Aside0.mk ((by rw [hg]; exact (below_size (nC HB)) : w.heap.size ≤ gb238)); have GE238 := Aside0.mk ((by rw [hg]; exact (below_size (nC HB)) : w.heap.size ≤ gb238)); replace HB := Aside0.mk (below_step (nC HB) hb); have NB235_238 := Aside0.mk ((by rw [hg]; exact Nat.ne_of_lt (blk_lt (nK BK235)) : gb235 ≠ gb238)); have NB238_235 := Aside0.mk ((by rw [hg]; exact Nat.ne_of_gt (blk_lt (nK BK235)) : gb238 ≠ gb235)); replace BK235 := Aside0.mk (nB BK235 hb); have NB236_238 := Aside0.mk ((by rw [hg]; exact Nat.ne_of_lt (blk_lt (nK BK236)) : gb236 ≠ gb238)); have NB238_236 := Aside0.mk ((by rw [hg]; exact Nat.ne_of_gt (blk_lt (nK BK236)) : gb238 ≠ gb236)); replace BK236 := Aside0.mk (nB BK236 hb); have NB237_238 := Aside0.mk ((by rw [hg]; exact Nat.ne_of_lt (blk_lt (nK BK237)) : gb237 ≠ gb238)); have NB238_237 := Aside0.mk ((by rw [hg]; exact Nat.ne_of_gt (blk_lt (nK BK237)) : gb238 ≠ gb237)); replace BK237 := Aside0.mk (nB BK237 hb); clear hb hbox hg; have hnb12 := NB238_235.out; have hnc12 := NB235_238.out; have hnb13 := NB238_236.out; have hnc13 := NB236_238.out; have hnb14 := NB238_237.out; have hnc14 := NB237_238.out; obtain ⟨hcz15_0, hcz15_1, hfz15_0, hfz15_1⟩ := cz2 BK238))
 go_loopg [6] k (fun kq v6 w' => ∃ (x6_1 : Int) (x239001_1 : List Int) (u239001 : Value), v6 = .int .i64 x6_1 ∧ Aside0 (kimberliteref03_Joined.l0 kq x6_1 a0_0 l0_1 a1_0 l1_1 (wrap64 (a0_0 + a1_0)) x239001_1 = some (r1, r2)) ∧ Aside0 (kq ≤ k) ∧ Aside0 (Kd.R (Kd.int .i64) 3 w' w.heap.size (fun _ => True) u239001 x239001_1) ∧ Aside0 (w'.heap[gb235]? = some (.cells #[.int .i64 a0_0, (.slice A0_1 l0_1.length c0_1)] 78 (0, 0))) ∧ Aside0 (w'.heap[gb236]? = some (.cells #[.int .i64 a1_0, (.slice A1_1 l1_1.length c1_1)] 78 (0, 0))) ∧ Aside0 (w'.heap[gb237]? = some (.cells #[.int .i64 0, (.slice none 0 0)] 78 (0, 0))) ∧ Aside0 (w'.heap[gb238]? = some (.cells #[.int .i64 (wrap64 (a0_0 + a1_0)), u239001] 78 (0, 0))) ∧ Aside0 (Below w.heap.size w w'))
 case atStart => exact ⟨(wrap64 (a0_0 + a1_0)), (([] : List Int)), (.slice none 0 0), (by first | rfl | (simp; done) | (simp [*]; done)), H', ⟨Nat.le_refl _⟩, ⟨by first | exact Kd.R_nil _ _ _ _ _ | exact Kd.N_nil _ _ _ _ _ | exact Kd.V_nil _ _ _ _ _ | exact Kd.Q_nil _ _ _ _ _ | exact Kd.S_nil _ _ _ _ _⟩, ⟨by (with_reducible repeat (first | refine blk_drewN ?_ _ | refine blk_drew ?_ | refine blk_alloc ?_ _)); refine blk_far ?_ NB235_238.out _; (with_reducible repeat (first | refine blk_drewN ?_ _ | refine blk_drew ?_ | refine blk_alloc ?_ _)); refine blk_far ?_ NB235_238.out _; (with_reducible repeat (first | refine blk_drewN ?_ _ | refine blk_drew ?_ | refine blk_alloc ?_ _)); exact BK235.out⟩, ⟨by (with_reducible repeat (first | refine blk_drewN ?_ _ | refine blk_drew ?_ | refine blk_alloc ?_ _)); refine blk_far ?_ NB236_238.out _; (with_reducible repeat (first | refine blk_drewN ?_ _ | refine blk_drew ?_ | refine blk_alloc ?_ _)); refine blk_far ?_ NB236_238.out _; (with_reducible repeat (first | refine blk_drewN ?_ _ | refine blk_drew ?_ | refine blk_alloc ?_ _)); exact BK236.out⟩, ⟨by (with_reducible repeat (first | refine blk_drewN ?_ _ | refine blk_drew ?_ | refine blk_alloc ?_ _)); refine blk_far ?_ NB237_238.out _; (with_reducible repeat (first | refine blk_drewN ?_ _ | refine blk_drew ?_ | refine blk_alloc ?_ _)); refine blk_far ?_ NB237_238.out _; (with_reducible repeat (first | refine blk_drewN ?_ _ | refine blk_drew ?_ | refine blk_alloc ?_ _)); exact BK237.out⟩, ⟨by (with_reducible repeat (first | refine blk_drewN ?_ _ | refine blk_drew ?_ | refine blk_alloc ?_ _)); refine blk_put (cs := #[.int .i64 (wrap64 (a0_0 + a1_0)), .slice none 0 0]) ?_ 1 _ rfl; (with_reducible repeat (first | refine blk_drewN ?_ _ | refine blk_drew ?_ | refine blk_alloc ?_ _)); refine blk_put (cs := #[.int .i64 0, .slice none 0 0]) ?_ 0 _ rfl; (with_reducible repeat (first | refine blk_drewN ?_ _ | refine blk_drew ?_ | refine blk_alloc ?_ _)); exact BK238.out⟩, ⟨nC HB⟩⟩
 case round =>
  as_aux_lemma =>
  clear H'; obtain ⟨x6_1, x239001_1, u239001, rfl, HA, HK1, HO_239001, BK235, BK236, BK237, BK238, HB⟩ := hrel
  cases gk with
  | zero => exact absurd HA.out (by simp [kimberliteref03_Joined.l0])
  | succ k1 =>
   have H := HA.out; clear HA; simp only [kimberliteref03_Joined.l0] at H; replace H := Option.bind_eq_some_iff.mp H; obtain ⟨t239, A160, H⟩ := H; replace H : ((kimberliteref03_Row_To.f a1_0 l1_1).bind fun t240 => (if x6_1 ≤ (wrap64 (t239 + t240)) then (kimberliteref03_Joined.l1 k1 x6_1 0 false a0_0 a0_0 l0_1 a1_0 l1_1 (wrap64 (a0_0 + a1_0)) x239001_1) else (some ((wrap64 (a0_0 + a1_0)), x239001_1)))) = some (r1, r2) := H; have A16 := Aside0.mk A160; clear A160; replace H := Option.bind_eq_some_iff.mp H; obtain ⟨t240, A170, H⟩ := H; replace H : (if x6_1 ≤ (wrap64 (t239 + t240)) then (kimberliteref03_Joined.l1 k1 x6_1 0 false a0_0 a0_0 l0_1 a1_0 l1_1 (wrap64 (a0_0 + a1_0)) x239001_1) else (some ((wrap64 (a0_0 + a1_0)), x239001_1))) = some (r1, r2) := H; have A17 := Aside0.mk A170; clear A170
   by_cases c18 : x6_1 ≤ (wrap64 (t239 + t240))
   · rw [if_pos c18] at H; have c18b0 : decide (x6_1 ≤ (wrap64 (t239 + t240))) = true := decide_eq_true c18; clear c18; have H' := Aside0.mk H; clear H; try go_wp2
     replace HO_239001 := Aside0.mk (Kd.R_drew HO_239001.out); replace BK235 := Aside0.mk (blk_drew BK235.out); replace BK236 := Aside0.mk (blk_drew BK236.out); replace BK237 := Aside0.mk (blk_drew BK237.out); replace BK238 := Aside0.mk (blk_drew BK238.out); replace HB := Aside0.mk (below_drew1 HB.out); refine start_ (n := 7) (S := fun w' => w'.cell? ⟨gb235, 0, none⟩ = some (.int .i64 a0_0) ∧ w'.cell? ⟨gb235, 1, none⟩ = some (.slice A0_1 l0_1.length c0_1) ∧ w'.cell? ⟨gb236, 0, none⟩ = some (.int .i64 a1_0) ∧ w'.cell? ⟨gb236, 1, none⟩ = some (.slice A1_1 l1_1.length c1_1)) (ds := []) #[false, false, false, false, false, false, false] (by kernel_rfl) rfl rfl ⟨(blk_cell BK235.out 0).trans rfl, (blk_cell BK235.out 1).trans rfl, (blk_cell BK236.out 0).trans rfl, (blk_cell BK236.out 1).trans rfl⟩ (fun hHeld => ?_); generalize wr.drew = w19 at HO_239001 BK235 BK236 BK237 BK238 HB hHeld ⊢; refine pure_ (i := 0) (N := some 19) (v := ?_) (a' := ?_) #[true, false, false, false, false, false, false] rfl rfl (by kernel_rfl) (fun _ _ _ h => h) (Or.inl ⟨by rfl, ?_⟩) ?_ ?_; rotate_left
     · intro w'; go_simp
       with_reducible rfl
     rotate_left
     · simp only [Act.put, zs1, zs2, zs3, i64_w, i32_w]; rfl
     refine take_ (i := 1) (N := some 20) (v := ?_) (a' := ?_) #[true, true, false, false, false, false, false] rfl rfl (by kernel_rfl) (fun _ _ _ h => h) (Or.inl ⟨by rfl, ?_⟩) hHeld ?_ ?_; rotate_left
     · rintro w' ⟨s0, zs1, zs2, zs3⟩; go_simp
       with_reducible rfl
     rotate_left
     · simp only [Act.put, zs1, zs2, zs3, i64_w, i32_w]; rfl
     refine take_ (i := 3) (N := some 22) (v := ?_) (a' := ?_) #[true, true, false, true, false, false, false] rfl rfl (by kernel_rfl) (fun _ _ _ h => h) (Or.inl ⟨by rfl, ?_⟩) hHeld ?_ ?_; rotate_left
     · rintro w' ⟨s0, zs1, zs2, zs3⟩; go_simp
       with_reducible rfl
     rotate_left
     · simp only [Act.put, zs1, zs2, zs3, i64_w, i32_w]; rfl
     refine one_ (i := 2) (N := some 21) #[true, true, true, true, false, false, false] rfl rfl (by kernel_rfl) (by decide) (fun K hK => ?_); refine gO Try.func65 #[.agg #[.int .i64 a0_0, .slice A0_1 l0_1.length c0_1]] ?_
     with_reducible refine (kimberliteref03_Row_To.calls a0_0 _ _ l0_1 t239 _ ?side1 ?side2 A16.out).mono ?_
     (case side1 => exact nS HR0_1 HB); (case side2 => exact HC0_1.out); rintro e w20 ⟨rfl, hb⟩; refine ⟨_, rfl, ?_⟩; replace HO_239001 := Aside0.mk (Kd.R_below (nR HO_239001) hb); replace BK235 := Aside0.mk (nB BK235 hb); replace BK236 := Aside0.mk (nB BK236 hb); replace BK237 := Aside0.mk (nB BK237 hb); replace BK238 := Aside0.mk (nB BK238 hb); replace HB := Aside0.mk (below_step (nC HB) hb); (try clear hb); (try clear hb2); (try clear hk); (try clear hi); refine hK.out _ _ ⟨(blk_cell BK235.out 0).trans rfl, (blk_cell BK235.out 1).trans rfl, (blk_cell BK236.out 0).trans rfl, (blk_cell BK236.out 1).trans rfl⟩ (fun hHeld => ?_); clear hK K; refine norm_ (a' := ?_) ?_ ?_; rotate_left
     · show Act.put _ (some 21) _ = _; simp only [Act.put, zs1, zs2, zs3, i64_w, i32_w]; rfl
     refine one_ (i := 4) (N := some 23) #[true, true, true, true, true, false, false] rfl rfl (by kernel_rfl) (by decide) (fun K hK => ?_); refine gO Try.func65 #[.agg #[.int .i64 a1_0, .slice A1_1 l1_1.length c1_1]] ?_
     with_reducible refine (kimberliteref03_Row_To.calls a1_0 _ _ l1_1 t240 _ ?side1 ?side2 A17.out).mono ?_
     (case side1 => exact nS HR1_1 HB); (case side2 => exact HC1_1.out); rintro e w21 ⟨rfl, hb⟩; refine ⟨_, rfl, ?_⟩; replace HO_239001 := Aside0.mk (Kd.R_below (nR HO_239001) hb); replace BK235 := Aside0.mk (nB BK235 hb); replace BK236 := Aside0.mk (nB BK236 hb); replace BK237 := Aside0.mk (nB BK237 hb); replace BK238 := Aside0.mk (nB BK238 hb); replace HB := Aside0.mk (below_step (nC HB) hb); (try clear hb); (try clear hb2); (try clear hk); (try clear hi); refine hK.out _ _ ⟨(blk_cell BK235.out 0).trans rfl, (blk_cell BK235.out 1).trans rfl, (blk_cell BK236.out 0).trans rfl, (blk_cell BK236.out 1).trans rfl⟩ (fun hHeld => ?_); clear hK K; refine norm_ (a' := ?_) ?_ ?_; rotate_left
     · show Act.put _ (some 23) _ = _; simp only [Act.put, zs1, zs2, zs3, i64_w, i32_w]; rfl
     refine pure_ (i := 5) (N := some 24) (v := ?_) (a' := ?_) #[true, true, true, true, true, true, false] rfl rfl (by kernel_rfl) (fun _ _ _ h => h) (Or.inl ⟨by rfl, ?_⟩) ?_ ?_; rotate_left
     · intro w'; go_simp
       with_reducible rfl
     rotate_left
     · simp only [Act.put, zs1, zs2, zs3, i64_w, i32_w]; rfl
     refine pure_ (i := 6) (N := some 25) (v := ?_) (a' := ?_) #[true, true, true, true, true, true, true] rfl rfl (by kernel_rfl) (fun _ _ _ h => h) (Or.inl ⟨by rfl, ?_⟩) ?_ ?_; rotate_left
     · intro w'; go_simp
       with_reducible rfl
     rotate_left
     · simp only [Act.put, zs1, zs2, zs3, i64_w, i32_w]; rfl
     refine done_ (by kernel_rfl) ?_; have hnb22 := NB235_236.out; have hnc22 := NB236_235.out; have hnb23 := NB235_237.out; have hnc23 := NB237_235.out; have hnb24 := NB235_238.out; have hnc24 := NB238_235.out; obtain ⟨hcz25_0, hcz25_1, hfz25_0, hfz25_1⟩ := cz2 BK235; try go_wp2
     go_loopg [7, 8, 9] k1 (fun kq v7 v8 v9 w' => ∃ (x7_2 : Int) (x8_2 : Bool) (x9_2 : Int), v7 = .int .i64 x7_2 ∧ v8 = .bool x8_2 ∧ v9 = .int .i64 x9_2 ∧ Aside0 (kimberliteref03_Joined.l1 kq x6_1 x7_2 x8_2 x9_2 a0_0 l0_1 a1_0 l1_1 (wrap64 (a0_0 + a1_0)) x239001_1 = some (r1, r2)) ∧ Aside0 (kq ≤ k1) ∧ Aside0 (Kd.R (Kd.int .i64) 3 w' w.heap.size (fun _ => True) u239001 x239001_1) ∧ Aside0 (w'.heap[gb235]? = some (.cells #[.int .i64 a0_0, (.slice A0_1 l0_1.length c0_1)] 78 (0, 0))) ∧ Aside0 (w'.heap[gb236]? = some (.cells #[.int .i64 a1_0, (.slice A1_1 l1_1.length c1_1)] 78 (0, 0))) ∧ Aside0 (w'.heap[gb237]? = some (.cells #[.int .i64 0, (.slice none 0 0)] 78 (0, 0))) ∧ Aside0 (w'.heap[gb238]? = some (.cells #[.int .i64 (wrap64 (a0_0 + a1_0)), u239001] 78 (0, 0))) ∧ Aside0 (Below w.heap.size w w'))
     case atStart => exact ⟨(0), (false), (a0_0), (by first | rfl | (simp; done) | (simp [*]; done)), (by first | rfl | (simp; done) | (simp [*]; done)), (by first | rfl | (simp; done) | (simp [*]; done)), H', ⟨Nat.le_refl _⟩, ⟨nR HO_239001⟩, ⟨nK BK235⟩, ⟨nK BK236⟩, ⟨nK BK237⟩, ⟨nK BK238⟩, ⟨nC HB⟩⟩
     case round =>
      as_aux_lemma =>
      clear H'; obtain ⟨x7_2, x8_2, x9_2, rfl, rfl, rfl, HA, HK2, HO_239001, BK235, BK236, BK237, BK238, HB⟩ := hrel
      cases gk with
      | zero => exact absurd HA.out (by simp [kimberliteref03_Joined.l1])
      | succ k2 =>
       have H := HA.out; clear HA; simp only [kimberliteref03_Joined.l1] at H; replace H := Option.bind_eq_some_iff.mp H; obtain ⟨t241, A260, H⟩ := H; replace H : (if x9_2 ≤ t241 then ((kimberliteref03_Row_has.f a1_0 l1_1 (wrap64 (x6_1 - x9_2))).bind fun t245 => (if t245 = true then ((kimberliteref03_Row_Value.f a0_0 l0_1 x9_2).bind fun t246 => ((kimberliteref03_Row_Value.f a1_0 l1_1 (wrap64 (x6_1 - x9_2))).bind fun t247 => (if x8_2 = true then (kimberliteref03_Joined.j2 k2 x6_1 x7_2 x8_2 x9_2 (wrap64 (t246 + t247)) (decide ((wrap64 (t246 + t247)) < x7_2)) a0_0 l0_1 a1_0 l1_1 (wrap64 (a0_0 + a1_0)) x239001_1) else (kimberliteref03_Joined.j2 k2 x6_1 x7_2 x8_2 x9_2 (wrap64 (t246 + t247)) true a0_0 l0_1 a1_0 l1_1 (wrap64 (a0_0 + a1_0)) x239001_1)))) else (kimberliteref03_Joined.l1 k2 x6_1 x7_2 x8_2 (wrap64 (x9_2 + 1)) a0_0 l0_1 a1_0 l1_1 (wrap64 (a0_0 + a1_0)) x239001_1))) else (if x239001_1.length < 17592186044416 then (kimberliteref03_Joined.l0 k2 (wrap64 (x6_1 + 1)) a0_0 l0_1 a1_0 l1_1 (wrap64 (a0_0 + a1_0)) (x239001_1 ++ [x7_2])) else (none))) = some (r1, r2) := H; have A26 := Aside0.mk A260; clear A260
       by_cases c27 : x9_2 ≤ t241
       · rw [if_pos c27] at H; have c27b0 : decide (x9_2 ≤ t241) = true := decide_eq_true c27; clear c27; replace H := Option.bind_eq_some_iff.mp H; obtain ⟨t245, A280, H⟩ := H; replace H : (if t245 = true then ((kimberliteref03_Row_Value.f a0_0 l0_1 x9_2).bind fun t246 => ((kimberliteref03_Row_Value.f a1_0 l1_1 (wrap64 (x6_1 - x9_2))).bind fun t247 => (if x8_2 = true then (kimberliteref03_Joined.j2 k2 x6_1 x7_2 x8_2 x9_2 (wrap64 (t246 + t247)) (decide ((wrap64 (t246 + t247)) < x7_2)) a0_0 l0_1 a1_0 l1_1 (wrap64 (a0_0 + a1_0)) x239001_1) else (kimberliteref03_Joined.j2 k2 x6_1 x7_2 x8_2 x9_2 (wrap64 (t246 + t247)) true a0_0 l0_1 a1_0 l1_1 (wrap64 (a0_0 + a1_0)) x239001_1)))) else (kimberliteref03_Joined.l1 k2 x6_1 x7_2 x8_2 (wrap64 (x9_2 + 1)) a0_0 l0_1 a1_0 l1_1 (wrap64 (a0_0 + a1_0)) x239001_1)) = some (r1, r2) := H; have A28 := Aside0.mk A280; clear A280
         by_cases c29 : t245 = true
         · subst c29; replace H : ((kimberliteref03_Row_Value.f a0_0 l0_1 x9_2).bind fun t246 => ((kimberliteref03_Row_Value.f a1_0 l1_1 (wrap64 (x6_1 - x9_2))).bind fun t247 => (if x8_2 = true then (kimberliteref03_Joined.j2 k2 x6_1 x7_2 x8_2 x9_2 (wrap64 (t246 + t247)) (decide ((wrap64 (t246 + t247)) < x7_2)) a0_0 l0_1 a1_0 l1_1 (wrap64 (a0_0 + a1_0)) x239001_1) else (kimberliteref03_Joined.j2 k2 x6_1 x7_2 x8_2 x9_2 (wrap64 (t246 + t247)) true a0_0 l0_1 a1_0 l1_1 (wrap64 (a0_0 + a1_0)) x239001_1)))) = some (r1, r2) := by rw [if_pos rfl] at H; exact H
           replace H := Option.bind_eq_some_iff.mp H; obtain ⟨t246, A300, H⟩ := H; replace H : ((kimberliteref03_Row_Value.f a1_0 l1_1 (wrap64 (x6_1 - x9_2))).bind fun t247 => (if x8_2 = true then (kimberliteref03_Joined.j2 k2 x6_1 x7_2 x8_2 x9_2 (wrap64 (t246 + t247)) (decide ((wrap64 (t246 + t247)) < x7_2)) a0_0 l0_1 a1_0 l1_1 (wrap64 (a0_0 + a1_0)) x239001_1) else (kimberliteref03_Joined.j2 k2 x6_1 x7_2 x8_2 x9_2 (wrap64 (t246 + t247)) true a0_0 l0_1 a1_0 l1_1 (wrap64 (a0_0 + a1_0)) x239001_1))) = some (r1, r2) := H; have A30 := Aside0.mk A300; clear A300; replace H := Option.bind_eq_some_iff.mp H; obtain ⟨t247, A310, H⟩ := H; replace H : (if x8_2 = true then (kimberliteref03_Joined.j2 k2 x6_1 x7_2 x8_2 x9_2 (wrap64 (t246 + t247)) (decide ((wrap64 (t246 + t247)) < x7_2)) a0_0 l0_1 a1_0 l1_1 (wrap64 (a0_0 + a1_0)) x239001_1) else (kimberliteref03_Joined.j2 k2 x6_1 x7_2 x8_2 x9_2 (wrap64 (t246 + t247)) true a0_0 l0_1 a1_0 l1_1 (wrap64 (a0_0 + a1_0)) x239001_1)) = some (r1, r2) := H; have A31 := Aside0.mk A310; clear A310; have HC32 := Aside0.mk H; clear H; have hnb33 := NB235_236.out; have hnc33 := NB236_235.out; have hnb34 := NB235_237.out; have hnc34 := NB237_235.out; have hnb35 := NB235_238.out; have hnc35 := NB238_235.out; obtain ⟨hcz36_0, hcz36_1, hfz36_0, hfz36_1⟩ := cz2 BK235; try go_wp2_with (first | ((with_reducible refine gate_callee (f := 65) rfl ?_); refine gL (some 32) Try.func65 #[.agg #[.int .i64 a0_0, .slice A0_1 l0_1.length c0_1]] ?_; (with_reducible refine (kimberliteref03_Row_To.calls a0_0 _ _ l0_1 t241 _ ?side1 ?side2 A26.out).mono ?_); (case side1 => exact nS HR0_1 HB); (case side2 => exact HC0_1.out); rintro e w37 ⟨rfl, hb⟩; refine ⟨_, rfl, ?_⟩; replace HO_239001 := Aside0.mk (Kd.R_below (nR HO_239001) hb); replace BK235 := Aside0.mk (nB BK235 hb); replace BK236 := Aside0.mk (nB BK236 hb); replace BK237 := Aside0.mk (nB BK237 hb); replace BK238 := Aside0.mk (nB BK238 hb); replace HB := Aside0.mk (below_step (nC HB) hb); (try clear hb); (try clear hb2); (try clear hk); (try clear hi); have hnb38 := NB236_237.out; have hnc38 := NB237_236.out; have hnb39 := NB236_238.out; have hnc39 := NB238_236.out; obtain ⟨hcz40_0, hcz40_1, hfz40_0, hfz40_1⟩ := cz2 BK236) | ((with_reducible refine gate_callee (f := 67) rfl ?_); refine gL (some 40) Try.func67 #[.agg #[.int .i64 a1_0, .slice A1_1 l1_1.length c1_1], .int .i64 (wrap64 (x6_1 - x9_2))] ?_; (with_reducible refine (kimberliteref03_Row_has.calls a1_0 _ _ l1_1 (wrap64 (x6_1 - x9_2)) true _ ?side1 ?side2 A28.out).mono ?_); (case side1 => exact nS HR1_1 HB); (case side2 => exact HC1_1.out); rintro e w41 ⟨rfl, hb⟩; refine ⟨_, rfl, ?_⟩; replace HO_239001 := Aside0.mk (Kd.R_below (nR HO_239001) hb); replace BK235 := Aside0.mk (nB BK235 hb); replace BK236 := Aside0.mk (nB BK236 hb); replace BK237 := Aside0.mk (nB BK237 hb); replace BK238 := Aside0.mk (nB BK238 hb); replace HB := Aside0.mk (below_step (nC HB) hb); (try clear hb); (try clear hb2); (try clear hk); (try clear hi)))
           replace HO_239001 := Aside0.mk (Kd.R_drew HO_239001.out); replace BK235 := Aside0.mk (blk_drew BK235.out); replace BK236 := Aside0.mk (blk_drew BK236.out); replace BK237 := Aside0.mk (blk_drew BK237.out); replace BK238 := Aside0.mk (blk_drew BK238.out); replace HB := Aside0.mk (below_drew1 HB.out); refine start_ (n := 10) (S := fun w' => w'.cell? ⟨gb235, 0, none⟩ = some (.int .i64 a0_0) ∧ w'.cell? ⟨gb235, 1, none⟩ = some (.slice A0_1 l0_1.length c0_1) ∧ w'.cell? ⟨gb236, 0, none⟩ = some (.int .i64 a1_0) ∧ w'.cell? ⟨gb236, 1, none⟩ = some (.slice A1_1 l1_1.length c1_1)) (ds := []) #[false, false, false, false, false, false, false, false, false, false] (by kernel_rfl) rfl rfl ⟨(blk_cell BK235.out 0).trans rfl, (blk_cell BK235.out 1).trans rfl, (blk_cell BK236.out 0).trans rfl, (blk_cell BK236.out 1).trans rfl⟩ (fun hHeld => ?_); refine with_tabW kimberliteref03_Joined.tab10 kimberliteref03_Joined.bits10 (fun HT_ HW_ => ?_); generalize w41.drew = w42 at HO_239001 BK235 BK236 BK237 BK238 HB hHeld ⊢; refine pure_ (i := 1) (N := some 43) (v := ?_) (a' := ?_) #[false, true, false, false, false, false, false, false, false, false] rfl rfl (any_of HT_.out (by kernel_rfl)) (fun _ _ _ h => h) (Or.inl ⟨by rfl, ?_⟩) ?_ ?_; rotate_left
           · intro w'; go_simp
             with_reducible rfl
           rotate_left
           · simp only [Act.put, zs1, zs2, zs3, i64_w, i32_w]; rfl
           refine pure_ (i := 4) (N := some 46) (v := ?_) (a' := ?_) #[false, true, false, false, true, false, false, false, false, false] rfl rfl (any_of HT_.out (by kernel_rfl)) (fun _ _ _ h => h) (Or.inl ⟨by rfl, ?_⟩) ?_ ?_; rotate_left
           · intro w'; go_simp
             with_reducible rfl
           rotate_left
           · simp only [Act.put, zs1, zs2, zs3, i64_w, i32_w]; rfl
           refine pure_ (i := 5) (N := some 47) (v := ?_) (a' := ?_) #[false, true, false, false, true, true, false, false, false, false] rfl rfl (any_of HT_.out (by kernel_rfl)) (fun _ _ _ h => h) (Or.inl ⟨by rfl, ?_⟩) ?_ ?_; rotate_left
           · intro w'; go_simp
             with_reducible rfl
           rotate_left
           · simp only [Act.put, zs1, zs2, zs3, i64_w, i32_w]; rfl
           refine pure_ (i := 6) (N := some 48) (v := ?_) (a' := ?_) #[false, true, false, false, true, true, true, false, false, false] rfl rfl (any_of HT_.out (by kernel_rfl)) (fun _ _ _ h => h) (Or.inl ⟨by rfl, ?_⟩) ?_ ?_; rotate_left
           · intro w'; go_simp
             with_reducible rfl
           rotate_left
           · simp only [Act.put, zs1, zs2, zs3, i64_w, i32_w]; rfl
           refine take_ (i := 0) (N := some 42) (v := ?_) (a' := ?_) #[true, true, false, false, true, true, true, false, false, false] rfl rfl (take_ofW HT_.out HW_.out (by kernel_rfl)) (fun _ _ _ h => h) (Or.inl ⟨by rfl, ?_⟩) hHeld ?_ ?_; rotate_left
           · rintro w' ⟨s0, zs1, zs2, zs3⟩; go_simp
             with_reducible rfl
           rotate_left
           · simp only [Act.put, zs1, zs2, zs3, i64_w, i32_w]; rfl
           refine take_ (i := 3) (N := some 45) (v := ?_) (a' := ?_) #[true, true, false, true, true, true, true, false, false, false] rfl rfl (take_ofW HT_.out HW_.out (by kernel_rfl)) (fun _ _ _ h => h) (Or.inl ⟨by rfl, ?_⟩) hHeld ?_ ?_; rotate_left
           · rintro w' ⟨s0, zs1, zs2, zs3⟩; go_simp
             with_reducible rfl
           rotate_left
           · simp only [Act.put, zs1, zs2, zs3, i64_w, i32_w]; rfl
           refine one_ (i := 2) (N := some 44) #[true, true, true, true, true, true, true, false, false, false] rfl rfl (one_of HT_.out (by kernel_rfl)) (by decide) (fun K hK => ?_); refine gO Try.func68 #[.agg #[.int .i64 a0_0, .slice A0_1 l0_1.length c0_1], .int .i64 x9_2] ?_
           with_reducible refine (kimberliteref03_Row_Value.calls a0_0 _ _ l0_1 x9_2 t246 _ ?side1 ?side2 A30.out).mono ?_
           (case side1 => exact nS HR0_1 HB); (case side2 => exact HC0_1.out); rintro e w43 ⟨rfl, hb⟩; refine ⟨_, rfl, ?_⟩; replace HO_239001 := Aside0.mk (Kd.R_below (nR HO_239001) hb); replace BK235 := Aside0.mk (nB BK235 hb); replace BK236 := Aside0.mk (nB BK236 hb); replace BK237 := Aside0.mk (nB BK237 hb); replace BK238 := Aside0.mk (nB BK238 hb); replace HB := Aside0.mk (below_step (nC HB) hb); (try clear hb); (try clear hb2); (try clear hk); (try clear hi); refine hK.out _ _ ⟨(blk_cell BK235.out 0).trans rfl, (blk_cell BK235.out 1).trans rfl, (blk_cell BK236.out 0).trans rfl, (blk_cell BK236.out 1).trans rfl⟩ (fun hHeld => ?_); clear hK K; refine norm_ (a' := ?_) ?_ ?_; rotate_left
           · show Act.put _ (some 44) _ = _; simp only [Act.put, zs1, zs2, zs3, i64_w, i32_w]; rfl
           refine one_ (i := 7) (N := some 49) #[true, true, true, true, true, true, true, true, false, false] rfl rfl (one_of HT_.out (by kernel_rfl)) (by decide) (fun K hK => ?_); refine gO Try.func68 #[.agg #[.int .i64 a1_0, .slice A1_1 l1_1.length c1_1], .int .i64 (wrap64 (x6_1 - x9_2))] ?_
           with_reducible refine (kimberliteref03_Row_Value.calls a1_0 _ _ l1_1 (wrap64 (x6_1 - x9_2)) t247 _ ?side1 ?side2 A31.out).mono ?_
           (case side1 => exact nS HR1_1 HB); (case side2 => exact HC1_1.out); rintro e w44 ⟨rfl, hb⟩; refine ⟨_, rfl, ?_⟩; replace HO_239001 := Aside0.mk (Kd.R_below (nR HO_239001) hb); replace BK235 := Aside0.mk (nB BK235 hb); replace BK236 := Aside0.mk (nB BK236 hb); replace BK237 := Aside0.mk (nB BK237 hb); replace BK238 := Aside0.mk (nB BK238 hb); replace HB := Aside0.mk (below_step (nC HB) hb); (try clear hb); (try clear hb2); (try clear hk); (try clear hi); refine hK.out _ _ ⟨(blk_cell BK235.out 0).trans rfl, (blk_cell BK235.out 1).trans rfl, (blk_cell BK236.out 0).trans rfl, (blk_cell BK236.out 1).trans rfl⟩ (fun hHeld => ?_); clear hK K; refine norm_ (a' := ?_) ?_ ?_; rotate_left
           · show Act.put _ (some 49) _ = _; simp only [Act.put, zs1, zs2, zs3, i64_w, i32_w]; rfl
           refine pure_ (i := 8) (N := some 50) (v := ?_) (a' := ?_) #[true, true, true, true, true, true, true, true, true, false] rfl rfl (any_of HT_.out (by kernel_rfl)) (fun _ _ _ h => h) (Or.inl ⟨by rfl, ?_⟩) ?_ ?_; rotate_left
           · intro w'; go_simp
             with_reducible rfl
           rotate_left
           · simp only [Act.put, zs1, zs2, zs3, i64_w, i32_w]; rfl
           refine pure_ (i := 9) (N := some 10) (v := ?_) (a' := ?_) #[true, true, true, true, true, true, true, true, true, true] rfl rfl (any_of HT_.out (by kernel_rfl)) (fun _ _ _ h => h) (Or.inl ⟨by rfl, ?_⟩) ?_ ?_; rotate_left
           · intro w'; go_simp
             with_reducible rfl
           rotate_left
           · simp only [Act.put, zs1, zs2, zs3, i64_w, i32_w]; rfl
           refine done_ (done_of HT_.out (by kernel_rfl)) ?_; go_upto_region 11 with (fail)
           go_cut [57] (fun v57 wc => ∃ (kq : Nat) (x57_31 : Bool), v57 = .bool x57_31 ∧ Aside0 (kimberliteref03_Joined.j2 kq x6_1 x7_2 x8_2 x9_2 (wrap64 (t246 + t247)) x57_31 a0_0 l0_1 a1_0 l1_1 (wrap64 (a0_0 + a1_0)) x239001_1 = some (r1, r2)) ∧ Aside0 (kq ≤ k2) ∧ Aside0 (Kd.R (Kd.int .i64) 3 wc w.heap.size (fun _ => True) u239001 x239001_1) ∧ Aside0 (wc.heap[gb235]? = some (.cells #[.int .i64 a0_0, (.slice A0_1 l0_1.length c0_1)] 78 (0, 0))) ∧ Aside0 (wc.heap[gb236]? = some (.cells #[.int .i64 a1_0, (.slice A1_1 l1_1.length c1_1)] 78 (0, 0))) ∧ Aside0 (wc.heap[gb237]? = some (.cells #[.int .i64 0, (.slice none 0 0)] 78 (0, 0))) ∧ Aside0 (wc.heap[gb238]? = some (.cells #[.int .i64 (wrap64 (a0_0 + a1_0)), u239001] 78 (0, 0))) ∧ Aside0 (Below w.heap.size w wc))
           case first =>
            as_aux_lemma =>
            have H := HC32.out; clear HC32
            by_cases c45 : x8_2 = true
            · subst c45; replace H : (kimberliteref03_Joined.j2 k2 x6_1 x7_2 true x9_2 (wrap64 (t246 + t247)) (decide ((wrap64 (t246 + t247)) < x7_2)) a0_0 l0_1 a1_0 l1_1 (wrap64 (a0_0 + a1_0)) x239001_1) = some (r1, r2) := by rw [if_pos rfl] at H; exact H
              have H' := Aside0.mk H; clear H; go_wp2
              go_meet
              case rel => exact ⟨_, (decide ((wrap64 (t246 + t247)) < x7_2)), (by first | rfl | (simp; done) | (simp [*]; done)), H', ⟨by have := HK1.out; have := HK2.out; first | omega | exact Nat.le_refl _⟩, ⟨nR HO_239001⟩, ⟨nK BK235⟩, ⟨nK BK236⟩, ⟨nK BK237⟩, ⟨nK BK238⟩, ⟨nC HB⟩⟩
            · replace c45 := Bool.eq_false_iff.mpr c45; subst c45; replace H : (kimberliteref03_Joined.j2 k2 x6_1 x7_2 false x9_2 (wrap64 (t246 + t247)) true a0_0 l0_1 a1_0 l1_1 (wrap64 (a0_0 + a1_0)) x239001_1) = some (r1, r2) := by rw [if_neg (show ¬ (false = true) by decide)] at H; exact H
              have H' := Aside0.mk H; clear H; go_wp2
              go_meet
              case rel => exact ⟨_, (true), (by first | rfl | (simp; done) | (simp [*]; done)), H', ⟨by have := HK1.out; have := HK2.out; first | omega | exact Nat.le_refl _⟩, ⟨nR HO_239001⟩, ⟨nK BK235⟩, ⟨nK BK236⟩, ⟨nK BK237⟩, ⟨nK BK238⟩, ⟨nC HB⟩⟩
           case rest =>
            as_aux_lemma =>
            clear HC32; obtain ⟨kq, x57_31, rfl, HA, HJ31, HO_239001, BK235, BK236, BK237, BK238, HB⟩ := hcut
            cases kq with
            | zero => exact absurd HA.out (by simp [kimberliteref03_Joined.j2])
            | succ kj31 =>
             have H := HA.out; clear HA; simp only [kimberliteref03_Joined.j2] at H
             by_cases c46 : x57_31 = true
             · subst c46; replace H : (kimberliteref03_Joined.l1 kj31 x6_1 (wrap64 (t246 + t247)) true (wrap64 (x9_2 + 1)) a0_0 l0_1 a1_0 l1_1 (wrap64 (a0_0 + a1_0)) x239001_1) = some (r1, r2) := by rw [if_pos rfl] at H; exact H
               have H' := Aside0.mk H; clear H; go_wp2
               go_roundg kj31
               case measure => have := HK1.out; have := HK2.out; have := HJ31.out; omega
               case rel => exact ⟨((wrap64 (t246 + t247))), (true), (wrap64 (x9_2 + 1)), (by first | rfl | (simp; done) | (simp [*]; done)), (by first | rfl | (simp; done) | (simp [*]; done)), (by first | rfl | (simp; done) | (simp [*]; done)), H', ⟨by have := HK1.out; have := HK2.out; have := HJ31.out; omega⟩, ⟨nR HO_239001⟩, ⟨nK BK235⟩, ⟨nK BK236⟩, ⟨nK BK237⟩, ⟨nK BK238⟩, ⟨nC HB⟩⟩
             · replace c46 := Bool.eq_false_iff.mpr c46; subst c46; replace H : (kimberliteref03_Joined.l1 kj31 x6_1 x7_2 x8_2 (wrap64 (x9_2 + 1)) a0_0 l0_1 a1_0 l1_1 (wrap64 (a0_0 + a1_0)) x239001_1) = some (r1, r2) := by rw [if_neg (show ¬ (false = true) by decide)] at H; exact H
               have H' := Aside0.mk H; clear H; go_wp2
               go_roundg kj31
               case measure => have := HK1.out; have := HK2.out; have := HJ31.out; omega
               case rel => exact ⟨(x7_2), (x8_2), (wrap64 (x9_2 + 1)), (by first | rfl | (simp; done) | (simp [*]; done)), (by first | rfl | (simp; done) | (simp [*]; done)), (by first | rfl | (simp; done) | (simp [*]; done)), H', ⟨by have := HK1.out; have := HK2.out; have := HJ31.out; omega⟩, ⟨nR HO_239001⟩, ⟨nK BK235⟩, ⟨nK BK236⟩, ⟨nK BK237⟩, ⟨nK BK238⟩, ⟨nC HB⟩⟩
         · replace c29 := Bool.eq_false_iff.mpr c29; subst c29; replace H : (kimberliteref03_Joined.l1 k2 x6_1 x7_2 x8_2 (wrap64 (x9_2 + 1)) a0_0 l0_1 a1_0 l1_1 (wrap64 (a0_0 + a1_0)) x239001_1) = some (r1, r2) := by rw [if_neg (show ¬ (false = true) by decide)] at H; exact H
           have H' := Aside0.mk H; clear H; have hnb47 := NB235_236.out; have hnc47 := NB236_235.out; have hnb48 := NB235_237.out; have hnc48 := NB237_235.out; have hnb49 := NB235_238.out; have hnc49 := NB238_235.out; obtain ⟨hcz50_0, hcz50_1, hfz50_0, hfz50_1⟩ := cz2 BK235; go_wp2_with (first | ((with_reducible refine gate_callee (f := 65) rfl ?_); refine gL (some 32) Try.func65 #[.agg #[.int .i64 a0_0, .slice A0_1 l0_1.length c0_1]] ?_; (with_reducible refine (kimberliteref03_Row_To.calls a0_0 _ _ l0_1 t241 _ ?side1 ?side2 A26.out).mono ?_); (case side1 => exact nS HR0_1 HB); (case side2 => exact HC0_1.out); rintro e w51 ⟨rfl, hb⟩; refine ⟨_, rfl, ?_⟩; replace HO_239001 := Aside0.mk (Kd.R_below (nR HO_239001) hb); replace BK235 := Aside0.mk (nB BK235 hb); replace BK236 := Aside0.mk (nB BK236 hb); replace BK237 := Aside0.mk (nB BK237 hb); replace BK238 := Aside0.mk (nB BK238 hb); replace HB := Aside0.mk (below_step (nC HB) hb); (try clear hb); (try clear hb2); (try clear hk); (try clear hi); have hnb52 := NB236_237.out; have hnc52 := NB237_236.out; have hnb53 := NB236_238.out; have hnc53 := NB238_236.out; obtain ⟨hcz54_0, hcz54_1, hfz54_0, hfz54_1⟩ := cz2 BK236) | ((with_reducible refine gate_callee (f := 67) rfl ?_); refine gL (some 40) Try.func67 #[.agg #[.int .i64 a1_0, .slice A1_1 l1_1.length c1_1], .int .i64 (wrap64 (x6_1 - x9_2))] ?_; (with_reducible refine (kimberliteref03_Row_has.calls a1_0 _ _ l1_1 (wrap64 (x6_1 - x9_2)) false _ ?side1 ?side2 A28.out).mono ?_); (case side1 => exact nS HR1_1 HB); (case side2 => exact HC1_1.out); rintro e w55 ⟨rfl, hb⟩; refine ⟨_, rfl, ?_⟩; replace HO_239001 := Aside0.mk (Kd.R_below (nR HO_239001) hb); replace BK235 := Aside0.mk (nB BK235 hb); replace BK236 := Aside0.mk (nB BK236 hb); replace BK237 := Aside0.mk (nB BK237 hb); replace BK238 := Aside0.mk (nB BK238 hb); replace HB := Aside0.mk (below_step (nC HB) hb); (try clear hb); (try clear hb2); (try clear hk); (try clear hi)))
           go_roundg k2
           case measure => have := HK1.out; have := HK2.out; omega
           case rel => exact ⟨(x7_2), (x8_2), (wrap64 (x9_2 + 1)), (by first | rfl | (simp; done) | (simp [*]; done)), (by first | rfl | (simp; done) | (simp [*]; done)), (by first | rfl | (simp; done) | (simp [*]; done)), H', ⟨by have := HK1.out; have := HK2.out; omega⟩, ⟨nR HO_239001⟩, ⟨nK BK235⟩, ⟨nK BK236⟩, ⟨nK BK237⟩, ⟨nK BK238⟩, ⟨nC HB⟩⟩
       · rw [if_neg c27] at H; have c27b0 : decide (x9_2 ≤ t241) = false := decide_eq_false c27; clear c27
         by_cases c56 : x239001_1.length < 17592186044416
         · rw [if_pos c56] at H; have LMc56 := Aside0.mk c56; clear c56; obtain ⟨y242, hy242⟩ : ∃ y_ : List Int, y_ = (x239001_1 ++ [x7_2]) := ⟨_, rfl⟩; replace H : (kimberliteref03_Joined.l0 k2 (wrap64 (x6_1 + 1)) a0_0 l0_1 a1_0 l1_1 (wrap64 (a0_0 + a1_0)) y242) = some (r1, r2) := by first | (rw [hy242]; with_reducible exact H) | (have H2_ := (Option.bind_some _ _).symm.trans H; rw [hy242]; with_reducible exact H2_) | (have H2_ := (Option.bind_some _ _).symm.trans H; with_reducible exact H2_) | with_reducible exact H | (rw [hy242]; exact H) | exact H
           have Ny242 := Aside0.mk hy242; clear hy242; have H' := Aside0.mk H; clear H; have hnb57 := NB235_236.out; have hnc57 := NB236_235.out; have hnb58 := NB235_237.out; have hnc58 := NB237_235.out; have hnb59 := NB235_238.out; have hnc59 := NB238_235.out; obtain ⟨hcz60_0, hcz60_1, hfz60_0, hfz60_1⟩ := cz2 BK235; go_wp2_with (first | ((with_reducible refine gate_callee (f := 65) rfl ?_); refine gL (some 32) Try.func65 #[.agg #[.int .i64 a0_0, .slice A0_1 l0_1.length c0_1]] ?_; (with_reducible refine (kimberliteref03_Row_To.calls a0_0 _ _ l0_1 t241 _ ?side1 ?side2 A26.out).mono ?_); (case side1 => exact nS HR0_1 HB); (case side2 => exact HC0_1.out); rintro e w61 ⟨rfl, hb⟩; refine ⟨_, rfl, ?_⟩; replace HO_239001 := Aside0.mk (Kd.R_below (nR HO_239001) hb); replace BK235 := Aside0.mk (nB BK235 hb); replace BK236 := Aside0.mk (nB BK236 hb); replace BK237 := Aside0.mk (nB BK237 hb); replace BK238 := Aside0.mk (nB BK238 hb); replace HB := Aside0.mk (below_step (nC HB) hb); (try clear hb); (try clear hb2); (try clear hk); (try clear hi); have hnb62 := NB238_236.out; have hnc62 := NB236_238.out; have hnb63 := NB238_237.out; have hnc63 := NB237_238.out; obtain ⟨hcz64_0, hcz64_1, hfz64_0, hfz64_1⟩ := cz2 BK238) | ((with_reducible refine gate_builtin (b := .append) (xs := #[.tmp 60, .tmp 62]) rfl ?_); at_builtin; refine Kd.R_append (Kd.int .i64) (w0 := w) w.heap.size rfl (.tmp 60) (.tmp 62) 22 3 (.int .i64 0) 8 rfl Try.underlying22 info3 rfl (by decide) (by omega) u239001 x239001_1 x7_2 [.int .i64 x7_2] (fun _ => True) (fun _ => False) rfl rfl ?aP (fun _ hk => hk.elim) ?aF ?aO ?aB ?aS ?aL ?_; (case aP => exact rfl); (case aB => exact (nC HB)); (case aF => exact (fun _ _ => trivial)); (case aO => exact (nR HO_239001)); (case aS => exact (below_size (nC HB))); (case aL => have := LMc56.out; omega); intro v243 w65 ho hb hg hat; rw [← Ny242.out] at ho; replace BK235 := Aside0.mk (blk_grown (g := gb235) (o := .cells #[.int .i64 a0_0, .slice A0_1 l0_1.length c0_1] 78 (0, 0)) (nK BK235) hg (Kd.R_ne HO_239001.out BK235.out (by decide))); replace BK236 := Aside0.mk (blk_grown (g := gb236) (o := .cells #[.int .i64 a1_0, .slice A1_1 l1_1.length c1_1] 78 (0, 0)) (nK BK236) hg (Kd.R_ne HO_239001.out BK236.out (by decide))); replace BK237 := Aside0.mk (blk_grown (g := gb237) (o := .cells #[.int .i64 0, .slice none 0 0] 78 (0, 0)) (nK BK237) hg (Kd.R_ne HO_239001.out BK237.out (by decide))); replace BK238 := Aside0.mk (blk_grown (g := gb238) (o := .cells #[.int .i64 (wrap64 (a0_0 + a1_0)), u239001] 78 (0, 0)) (nK BK238) hg (Kd.R_ne HO_239001.out BK238.out (by decide))); replace HB := Aside0.mk (hb); have HO244 := Aside0.mk (ho); clear HO_239001; clear ho hb hg hat; obtain ⟨Ao66, co66, eo66⟩ := Kd.R_slice HO244.out; subst eo66; obtain ⟨hcz67_0, hcz67_1, hfz67_0, hfz67_1⟩ := cz2 BK238))
           go_roundg k2
           case measure => have := HK1.out; have := HK2.out; omega
           case rel => exact ⟨(wrap64 (x6_1 + 1)), (y242), (.slice Ao66 y242.length co66), (by first | rfl | (simp; done) | (simp [*]; done)), H', ⟨by have := HK1.out; have := HK2.out; omega⟩, ⟨by (with_reducible repeat (first | apply Kd.R_alloc | apply Kd.R_drewN | apply Kd.R_drew)); exact Kd.R_mono (Kd.R_far (p := ⟨gb238, 1, none⟩) (Kd.R_types HO244.out BK238.out (by decide)) (fun _ hk => hk.2) (.slice Ao66 y242.length co66)) (fun _ hk => trivial)⟩, ⟨by (with_reducible repeat (first | refine blk_drewN ?_ _ | refine blk_drew ?_ | refine blk_alloc ?_ _)); refine blk_far ?_ NB235_238.out _; (with_reducible repeat (first | refine blk_drewN ?_ _ | refine blk_drew ?_ | refine blk_alloc ?_ _)); exact BK235.out⟩, ⟨by (with_reducible repeat (first | refine blk_drewN ?_ _ | refine blk_drew ?_ | refine blk_alloc ?_ _)); refine blk_far ?_ NB236_238.out _; (with_reducible repeat (first | refine blk_drewN ?_ _ | refine blk_drew ?_ | refine blk_alloc ?_ _)); exact BK236.out⟩, ⟨by (with_reducible repeat (first | refine blk_drewN ?_ _ | refine blk_drew ?_ | refine blk_alloc ?_ _)); refine blk_far ?_ NB237_238.out _; (with_reducible repeat (first | refine blk_drewN ?_ _ | refine blk_drew ?_ | refine blk_alloc ?_ _)); exact BK237.out⟩, ⟨by (with_reducible repeat (first | refine blk_drewN ?_ _ | refine blk_drew ?_ | refine blk_alloc ?_ _)); refine blk_put (cs := #[.int .i64 (wrap64 (a0_0 + a1_0)), u239001]) ?_ 1 _ rfl; (with_reducible repeat (first | refine blk_drewN ?_ _ | refine blk_drew ?_ | refine blk_alloc ?_ _)); exact BK238.out⟩, ⟨nC HB⟩⟩
         · rw [if_neg c56] at H; exact absurd H (by simp)
   · rw [if_neg c18] at H; have c18b0 : decide (x6_1 ≤ (wrap64 (t239 + t240))) = false := decide_eq_false c18; clear c18; simp only [Option.some.injEq, Prod.mk.injEq] at H; obtain ⟨rfl, rfl⟩ := H; try go_wp2
     replace HO_239001 := Aside0.mk (Kd.R_drew HO_239001.out); replace BK235 := Aside0.mk (blk_drew BK235.out); replace BK236 := Aside0.mk (blk_drew BK236.out); replace BK237 := Aside0.mk (blk_drew BK237.out); replace BK238 := Aside0.mk (blk_drew BK238.out); replace HB := Aside0.mk (below_drew1 HB.out); refine start_ (n := 7) (S := fun w' => w'.cell? ⟨gb235, 0, none⟩ = some (.int .i64 a0_0) ∧ w'.cell? ⟨gb235, 1, none⟩ = some (.slice A0_1 l0_1.length c0_1) ∧ w'.cell? ⟨gb236, 0, none⟩ = some (.int .i64 a1_0) ∧ w'.cell? ⟨gb236, 1, none⟩ = some (.slice A1_1 l1_1.length c1_1)) (ds := []) #[false, false, false, false, false, false, false] (by kernel_rfl) rfl rfl ⟨(blk_cell BK235.out 0).trans rfl, (blk_cell BK235.out 1).trans rfl, (blk_cell BK236.out 0).trans rfl, (blk_cell BK236.out 1).trans rfl⟩ (fun hHeld => ?_); generalize wr.drew = w68 at HO_239001 BK235 BK236 BK237 BK238 HB hHeld ⊢; refine pure_ (i := 0) (N := some 19) (v := ?_) (a' := ?_) #[true, false, false, false, false, false, false] rfl rfl (by kernel_rfl) (fun _ _ _ h => h) (Or.inl ⟨by rfl, ?_⟩) ?_ ?_; rotate_left
     · intro w'; go_simp
       with_reducible rfl
     rotate_left
     · simp only [Act.put, zs1, zs2, zs3, i64_w, i32_w]; rfl
     refine take_ (i := 1) (N := some 20) (v := ?_) (a' := ?_) #[true, true, false, false, false, false, false] rfl rfl (by kernel_rfl) (fun _ _ _ h => h) (Or.inl ⟨by rfl, ?_⟩) hHeld ?_ ?_; rotate_left
     · rintro w' ⟨s0, zs1, zs2, zs3⟩; go_simp
       with_reducible rfl
     rotate_left
     · simp only [Act.put, zs1, zs2, zs3, i64_w, i32_w]; rfl
     refine take_ (i := 3) (N := some 22) (v := ?_) (a' := ?_) #[true, true, false, true, false, false, false] rfl rfl (by kernel_rfl) (fun _ _ _ h => h) (Or.inl ⟨by rfl, ?_⟩) hHeld ?_ ?_; rotate_left
     · rintro w' ⟨s0, zs1, zs2, zs3⟩; go_simp
       with_reducible rfl
     rotate_left
     · simp only [Act.put, zs1, zs2, zs3, i64_w, i32_w]; rfl
     refine one_ (i := 2) (N := some 21) #[true, true, true, true, false, false, false] rfl rfl (by kernel_rfl) (by decide) (fun K hK => ?_); refine gO Try.func65 #[.agg #[.int .i64 a0_0, .slice A0_1 l0_1.length c0_1]] ?_
     with_reducible refine (kimberliteref03_Row_To.calls a0_0 _ _ l0_1 t239 _ ?side1 ?side2 A16.out).mono ?_
     (case side1 => exact nS HR0_1 HB); (case side2 => exact HC0_1.out); rintro e w69 ⟨rfl, hb⟩; refine ⟨_, rfl, ?_⟩; replace HO_239001 := Aside0.mk (Kd.R_below (nR HO_239001) hb); replace BK235 := Aside0.mk (nB BK235 hb); replace BK236 := Aside0.mk (nB BK236 hb); replace BK237 := Aside0.mk (nB BK237 hb); replace BK238 := Aside0.mk (nB BK238 hb); replace HB := Aside0.mk (below_step (nC HB) hb); (try clear hb); (try clear hb2); (try clear hk); (try clear hi); refine hK.out _ _ ⟨(blk_cell BK235.out 0).trans rfl, (blk_cell BK235.out 1).trans rfl, (blk_cell BK236.out 0).trans rfl, (blk_cell BK236.out 1).trans rfl⟩ (fun hHeld => ?_); clear hK K; refine norm_ (a' := ?_) ?_ ?_; rotate_left
     · show Act.put _ (some 21) _ = _; simp only [Act.put, zs1, zs2, zs3, i64_w, i32_w]; rfl
     refine one_ (i := 4) (N := some 23) #[true, true, true, true, true, false, false] rfl rfl (by kernel_rfl) (by decide) (fun K hK => ?_); refine gO Try.func65 #[.agg #[.int .i64 a1_0, .slice A1_1 l1_1.length c1_1]] ?_
     with_reducible refine (kimberliteref03_Row_To.calls a1_0 _ _ l1_1 t240 _ ?side1 ?side2 A17.out).mono ?_
     (case side1 => exact nS HR1_1 HB); (case side2 => exact HC1_1.out); rintro e w70 ⟨rfl, hb⟩; refine ⟨_, rfl, ?_⟩; replace HO_239001 := Aside0.mk (Kd.R_below (nR HO_239001) hb); replace BK235 := Aside0.mk (nB BK235 hb); replace BK236 := Aside0.mk (nB BK236 hb); replace BK237 := Aside0.mk (nB BK237 hb); replace BK238 := Aside0.mk (nB BK238 hb); replace HB := Aside0.mk (below_step (nC HB) hb); (try clear hb); (try clear hb2); (try clear hk); (try clear hi); refine hK.out _ _ ⟨(blk_cell BK235.out 0).trans rfl, (blk_cell BK235.out 1).trans rfl, (blk_cell BK236.out 0).trans rfl, (blk_cell BK236.out 1).trans rfl⟩ (fun hHeld => ?_); clear hK K; refine norm_ (a' := ?_) ?_ ?_; rotate_left
     · show Act.put _ (some 23) _ = _; simp only [Act.put, zs1, zs2, zs3, i64_w, i32_w]; rfl
     refine pure_ (i := 5) (N := some 24) (v := ?_) (a' := ?_) #[true, true, true, true, true, true, false] rfl rfl (by kernel_rfl) (fun _ _ _ h => h) (Or.inl ⟨by rfl, ?_⟩) ?_ ?_; rotate_left
     · intro w'; go_simp
       with_reducible rfl
     rotate_left
     · simp only [Act.put, zs1, zs2, zs3, i64_w, i32_w]; rfl
     refine pure_ (i := 6) (N := some 25) (v := ?_) (a' := ?_) #[true, true, true, true, true, true, true] rfl rfl (by kernel_rfl) (fun _ _ _ h => h) (Or.inl ⟨by rfl, ?_⟩) ?_ ?_; rotate_left
     · intro w'; go_simp
       with_reducible rfl
     rotate_left
     · simp only [Act.put, zs1, zs2, zs3, i64_w, i32_w]; rfl
     refine done_ (by kernel_rfl) ?_; have hnb71 := NB238_235.out; have hnc71 := NB235_238.out; have hnb72 := NB238_236.out; have hnc72 := NB236_238.out; have hnb73 := NB238_237.out; have hnc73 := NB237_238.out; obtain ⟨hcz74_0, hcz74_1, hfz74_0, hfz74_1⟩ := cz2 BK238; have hnb75 := NB237_235.out; have hnc75 := NB235_237.out; have hnb76 := NB237_236.out; have hnc76 := NB236_237.out; obtain ⟨hcz77_0, hcz77_1, hfz77_0, hfz77_1⟩ := cz2 BK237; obtain ⟨Ao78, co78, eo78⟩ := Kd.R_slice HO_239001.out; subst eo78; try go_wp2
     refine bodyPost_ret (results_cell_row rfl _ _ gb237 78 #[.int .i64 (wrap64 (a0_0 + a1_0)), .slice Ao78 x239001_1.length co78] (0, 0) _ rfl (by (with_reducible repeat (first | refine blk_drewN ?_ _ | refine blk_drew ?_ | refine blk_alloc ?_ _)); refine blk_put (cs := #[.int .i64 (wrap64 (a0_0 + a1_0)), .slice none 0 0]) ?_ 1 _ rfl; (with_reducible repeat (first | refine blk_drewN ?_ _ | refine blk_drew ?_ | refine blk_alloc ?_ _)); refine blk_put (cs := #[.int .i64 0, .slice none 0 0]) ?_ 0 _ rfl; (with_reducible repeat (first | refine blk_drewN ?_ _ | refine blk_drew ?_ | refine blk_alloc ?_ _)); exact BK237.out) Try.underlying78 rfl (by kernel_rfl)) rfl ?_; exact ⟨_, by first | rfl | (simp [errW_none, errW_some] <;> rfl) | (simp [*, errW_none, errW_some] <;> rfl), by (with_reducible repeat (first | apply Kd.R_alloc | apply Kd.R_drewN | apply Kd.R_drew)); exact Kd.R_mono (Kd.R_far (p := ⟨gb237, 1, none⟩) (Kd.R_far (p := ⟨gb237, 0, none⟩) (Kd.R_types HO_239001.out BK237.out (by decide)) (fun _ hk => hk.2) (.int .i64 (wrap64 (a0_0 + a1_0)))) (fun _ hk => hk.2) (.slice Ao78 x239001_1.length co78)) (fun _ hk => trivial), nC HB⟩
end Go.Proofs.Ytingjpcgehgiiaa.Pr
end
section
namespace Go.Proofs.Ytingjpcgehgiiaa.Pr
open Go.RowKit Go.Proofs.YtingjpcgehgiiaaW.PrintWords Go.Proofs.YtingjpcgehgiiaaW.PrintLast Go.Proofs.YtingjpcgehgiiaaW.PrintMore
set_option linter.unusedVariables false
set_option linter.unusedSimpArgs false
theorem nil_out (d : S24) : outL d 0 = [] := rfl
end Go.Proofs.Ytingjpcgehgiiaa.Pr
end
section
namespace Go.Proofs.Ytingjpcgehgiiaa.Pr
open Go.RowKit Go.Proofs.YtingjpcgehgiiaaW.PrintWords Go.Proofs.YtingjpcgehgiiaaW.PrintLast Go.Proofs.YtingjpcgehgiiaaW.PrintMore
set_option linter.unusedVariables false
set_option linter.unusedSimpArgs false
structure Wd (n : Nat) (c : S24) : Prop where
  a0 : -(1048576 * (n : Int)) ≤ c.f0
  b0 : c.f0 ≤ 1048576 * (n : Int)
  a1 : -(1099511627776 * (n : Int)) ≤ c.f1
  b1 : c.f1 ≤ 1099511627776 * (n : Int)
  len : c.f2.length ≤ 64 * n
  sort : sortedI c.f2 = true
  slope : ∀ s ∈ c.f2, -1048576 ≤ s ∧ s ≤ 1048576
theorem wd_vc {c : S24} (h : Vc c) : Wd 1 c := by
  obtain ⟨h1, h2, h3, h4, h5, h6, h7⟩ := vc_parts h
  exact ⟨by omega, by omega, by omega, by omega, by omega, h6, h7⟩
theorem wd_join {n m : Nat} {a b : S24} (ha : Wd n a) (hb : Wd m b) : Wd (n + m) (joinC a b) := by
  have h1 := ha.a0
  have h2 := ha.b0
  have h3 := ha.a1
  have h4 := ha.b1
  have k1 := hb.a0
  have k2 := hb.b0
  have k3 := hb.a1
  have k4 := hb.b1
  have l1 := ha.len
  have l2 := hb.len
  have hl := joinC_len a b
  refine ⟨?_, ?_, ?_, ?_, ?_, sortL_sorted _, fun s hs => ?_⟩
  · show -(1048576 * ((n + m : Nat) : Int)) ≤ a.f0 + b.f0
    push_cast; omega
  · show a.f0 + b.f0 ≤ 1048576 * ((n + m : Nat) : Int)
    push_cast; omega
  · show -(1099511627776 * ((n + m : Nat) : Int)) ≤ a.f1 + b.f1
    push_cast; omega
  · show a.f1 + b.f1 ≤ 1099511627776 * ((n + m : Nat) : Int)
    push_cast; omega
  · omega
  · have hm : s ∈ a.f2 ++ b.f2 := (sortL_perm _).mem_iff.1 hs
    rcases List.mem_append.1 hm with h | h
    · exact ha.slope s h
    · exact hb.slope s h
theorem wd_val {n : Nat} {c : S24} (h : Wd n c) (x : Int) : -(1099578736640 * (n : Int)) ≤ valC c x ∧ valC c x ≤ 1099578736640 * (n : Int) := by
  have h3 := h.a1
  have h4 := h.b1
  have hl := h.len
  have := tot_bound (m := 1048576) (by decide) (l := c.f2.take (x - c.f0).toNat) fun s hs => h.slope s (List.mem_of_mem_take hs)
  have hk : ((c.f2.take (x - c.f0).toNat).length : Int) ≤ 64 * (n : Int) := by rw [List.length_take]; omega
  rw [valC_eq]
  omega
theorem row_to_w {n : Nat} {c : S24} (h : Wd n c) (hn : n ≤ 1000) : kimberliteref03_Row_To.f c.f0 (outL c (c.f2.length + 1)) = some (c.f0 + (c.f2.length : Int)) := by
  have h1 := h.a0
  have h2 := h.b0
  have hl := h.len
  unfold kimberliteref03_Row_To.f
  rw [outL_len]
  congr 1
  unfold wrap64
  omega
theorem row_value_w {n : Nat} {c : S24} (h : Wd n c) (hn : n ≤ 1000) {x : Int} (hx : inC c x) : kimberliteref03_Row_Value.f c.f0 (outL c (c.f2.length + 1)) x = some (valC c x) := by
  have h1 := h.a0
  have h2 := h.b0
  have hl := h.len
  obtain ⟨x1, x2⟩ := hx
  obtain ⟨k, hk⟩ := Int.eq_ofNat_of_zero_le (show 0 ≤ x - c.f0 by omega)
  have e : wrap64 (x - c.f0) = (k : Int) := by unfold wrap64; omega
  unfold kimberliteref03_Row_Value.f
  have hl := outL_len c (c.f2.length + 1)
  rw [e, if_pos (by omega), if_pos (by omega), outL_rd _ _ _ (by omega), ← hk]
  congr 2
  omega
theorem row_has_w {n : Nat} {c : S24} (h : Wd n c) (hn : n ≤ 1000) (x : Int) : kimberliteref03_Row_has.f c.f0 (outL c (c.f2.length + 1)) x = some (decide (inC c x)) := by
  unfold kimberliteref03_Row_has.f
  by_cases h1 : x ≥ c.f0
  · rw [if_pos h1, row_to_w h hn, Option.bind_some]
    congr 1
    apply decide_eq_decide.2
    exact ⟨fun h => ⟨h1, h⟩, fun h => h.2⟩
  · rw [if_neg h1, decide_eq_false (fun h : inC c x => h1 h.1)]
theorem jin_loop {n m : Nat} {a b : S24} (ha : Wd n a) (hb : Wd m b) (hn : n ≤ 100) (hm : m ≤ 100) {R : Int × List Int} {z : Int} (hz : inC (joinC a b) z) (g : Int) (acc : List Int) (hacc : acc.length ≤ 1000000)
    (hK : Ev (fun k => kimberliteref03_Joined.l0 k (wrap64 (z + 1)) a.f0 (outL a (a.f2.length + 1)) b.f0 (outL b (b.f2.length + 1)) g (acc ++ [valC (joinC a b) z])) R) :
    ∀ (d i : Nat) (best : Int) (some_ : Bool), i + d = a.f2.length + 1 → (some_ = true → valC (joinC a b) z ≤ best) → ((∃ y, a.f0 ≤ y ∧ y < a.f0 + (i : Int) ∧ inC b (z - y) ∧ valC a y + valC b (z - y) = valC (joinC a b) z) → some_ = true ∧ best = valC (joinC a b) z) →
      Ev (fun k => kimberliteref03_Joined.l1 k z best some_ (a.f0 + (i : Int)) a.f0 (outL a (a.f2.length + 1)) b.f0 (outL b (b.f2.length + 1)) g acc) R
  | 0, i, best, some_, hi, hA, hB => by
    obtain ⟨y, hy1, hy2, hy3⟩ := join_met ha.sort hb.sort hz
    obtain ⟨_, rfl⟩ := hB ⟨y, hy1.1, by have := hy1.2; omega, hy2, hy3⟩
    refine Ev.step (fun k => ?_) hK
    simp only [kimberliteref03_Joined.l1]
    rw [row_to_w ha (by omega), Option.bind_some, if_neg (by omega), if_pos (by omega)]
  | d + 1, i, best, some_, hi, hA, hB => by
    have h1 := ha.a0
    have h2 := ha.b0
    have h3 := ha.len
    have k1 := hb.a0
    have k2 := hb.b0
    have k3 := hb.len
    obtain ⟨z1, z2⟩ := hz
    have hJ0 : (joinC a b).f0 = a.f0 + b.f0 := rfl
    have hJl := joinC_len a b
    rw [hJ0] at z1 z2
    rw [hJl] at z2
    have ew : wrap64 (a.f0 + (i : Int) + 1) = a.f0 + ((i + 1 : Nat) : Int) := by unfold wrap64; omega
    have ez : wrap64 (z - (a.f0 + (i : Int))) = z - (a.f0 + (i : Int)) := by unfold wrap64; push_cast at z2; omega
    have hin : inC a (a.f0 + (i : Int)) := by unfold inC; omega
    by_cases hq : inC b (z - (a.f0 + (i : Int)))
    · have v1 := wd_val ha (a.f0 + (i : Int))
      have v2 := wd_val hb (z - (a.f0 + (i : Int)))
      have ev : wrap64 (valC a (a.f0 + (i : Int)) + valC b (z - (a.f0 + (i : Int)))) = valC a (a.f0 + (i : Int)) + valC b (z - (a.f0 + (i : Int))) := by unfold wrap64; omega
      have hle := join_le hin hq
      rw [show a.f0 + (i : Int) + (z - (a.f0 + (i : Int))) = z by omega] at hle
      have hor : ∀ y : Int, y < a.f0 + ((i + 1 : Nat) : Int) → y < a.f0 + (i : Int) ∨ y = a.f0 + (i : Int) := fun y hy => by omega
      -- taken
      have taken : Ev (fun k => kimberliteref03_Joined.j2 k z best some_ (a.f0 + (i : Int)) (valC a (a.f0 + (i : Int)) + valC b (z - (a.f0 + (i : Int)))) true a.f0 (outL a (a.f2.length + 1)) b.f0 (outL b (b.f2.length + 1)) g acc) R ∨ (some_ = true ∧ best ≤ valC a (a.f0 + (i : Int)) + valC b (z - (a.f0 + (i : Int)))) := by
        by_cases hc : some_ = true ∧ best ≤ valC a (a.f0 + (i : Int)) + valC b (z - (a.f0 + (i : Int)))
        · exact .inr hc
        · refine .inl ?_
          have ih := jin_loop ha hb hn hm ⟨by rw [hJ0]; exact z1, by rw [hJ0, hJl]; exact z2⟩ g acc hacc hK d (i + 1) (valC a (a.f0 + (i : Int)) + valC b (z - (a.f0 + (i : Int)))) true (by omega) (fun _ => hle) (fun ⟨y, y1, y2, y3, y4⟩ => ⟨rfl, by
            rcases hor y y2 with hlt | rfl
            · obtain ⟨s1, s2⟩ := hB ⟨y, y1, hlt, y3, y4⟩
              exact absurd ⟨s1, by omega⟩ hc
            · exact y4⟩)
          refine Ev.step (fun k => ?_) ih
          simp only [kimberliteref03_Joined.j2]
          rw [if_pos trivial, ew]
      have left : some_ = true → best ≤ valC a (a.f0 + (i : Int)) + valC b (z - (a.f0 + (i : Int))) → Ev (fun k => kimberliteref03_Joined.j2 k z best some_ (a.f0 + (i : Int)) (valC a (a.f0 + (i : Int)) + valC b (z - (a.f0 + (i : Int)))) false a.f0 (outL a (a.f2.length + 1)) b.f0 (outL b (b.f2.length + 1)) g acc) R := fun s1 s2 => by
        have hA' := hA s1
        have ih := jin_loop ha hb hn hm ⟨by rw [hJ0]; exact z1, by rw [hJ0, hJl]; exact z2⟩ g acc hacc hK d (i + 1) best some_ (by omega) hA (fun ⟨y, y1, y2, y3, y4⟩ => by
          rcases hor y y2 with hlt | rfl
          · exact hB ⟨y, y1, hlt, y3, y4⟩
          · exact ⟨s1, by omega⟩)
        refine Ev.step (fun k => ?_) ih
        simp only [kimberliteref03_Joined.j2]
        rw [if_neg (by simp), ew]
      cases hs : some_ with
      | false =>
        rw [hs] at taken
        rcases taken with ht | ⟨ht, _⟩
        · refine Ev.step (fun k => ?_) ht
          simp only [kimberliteref03_Joined.l1]
          rw [row_to_w ha (by omega), Option.bind_some, if_pos (show a.f0 + (i : Int) ≤ a.f0 + (a.f2.length : Int) from hin.2), ez, row_has_w hb (by omega), Option.bind_some, if_pos (decide_eq_true hq), row_value_w ha (by omega) hin, Option.bind_some, row_value_w hb (by omega) hq, Option.bind_some, if_neg (by simp), ev]
        · cases ht
      | true =>
        rw [hs] at taken left
        by_cases hc : valC a (a.f0 + (i : Int)) + valC b (z - (a.f0 + (i : Int))) < best
        · rcases taken with ht | ⟨_, ht⟩
          · refine Ev.step (fun k => ?_) ht
            simp only [kimberliteref03_Joined.l1]
            rw [row_to_w ha (by omega), Option.bind_some, if_pos (show a.f0 + (i : Int) ≤ a.f0 + (a.f2.length : Int) from hin.2), ez, row_has_w hb (by omega), Option.bind_some, if_pos (decide_eq_true hq), row_value_w ha (by omega) hin, Option.bind_some, row_value_w hb (by omega) hq, Option.bind_some, if_pos trivial, ev, decide_eq_true hc]
          · omega
        · refine Ev.step (fun k => ?_) (left rfl (by omega))
          simp only [kimberliteref03_Joined.l1]
          rw [row_to_w ha (by omega), Option.bind_some, if_pos (show a.f0 + (i : Int) ≤ a.f0 + (a.f2.length : Int) from hin.2), ez, row_has_w hb (by omega), Option.bind_some, if_pos (decide_eq_true hq), row_value_w ha (by omega) hin, Option.bind_some, row_value_w hb (by omega) hq, Option.bind_some, if_pos trivial, ev, decide_eq_false hc]
    · have ih := jin_loop ha hb hn hm ⟨by rw [hJ0]; exact z1, by rw [hJ0, hJl]; exact z2⟩ g acc hacc hK d (i + 1) best some_ (by omega) hA (fun ⟨y, y1, y2, y3, y4⟩ => by
        rcases (show y < a.f0 + (i : Int) ∨ y = a.f0 + (i : Int) by omega) with hlt | rfl
        · exact hB ⟨y, y1, hlt, y3, y4⟩
        · exact absurd y3 hq)
      refine Ev.step (fun k => ?_) ih
      simp only [kimberliteref03_Joined.l1]
      rw [row_to_w ha (by omega), Option.bind_some, if_pos (show a.f0 + (i : Int) ≤ a.f0 + (a.f2.length : Int) from hin.2), ez, row_has_w hb (by omega), Option.bind_some, if_neg (by rw [decide_eq_true_eq]; exact hq), ew]
theorem joined_loop {n m : Nat} {a b : S24} (ha : Wd n a) (hb : Wd m b) (hn : n ≤ 100) (hm : m ≤ 100) : ∀ d i : Nat, i + d = (joinC a b).f2.length + 1 →
    Ev (fun k => kimberliteref03_Joined.l0 k ((joinC a b).f0 + (i : Int)) a.f0 (outL a (a.f2.length + 1)) b.f0 (outL b (b.f2.length + 1)) (joinC a b).f0 (outL (joinC a b) i)) ((joinC a b).f0, outL (joinC a b) ((joinC a b).f2.length + 1))
  | 0, i, hi => by
    have h1 := ha.a0
    have h2 := ha.b0
    have h3 := ha.len
    have k1 := hb.a0
    have k2 := hb.b0
    have k3 := hb.len
    have hJ0 : (joinC a b).f0 = a.f0 + b.f0 := rfl
    have hJl := joinC_len a b
    have ew : wrap64 (a.f0 + (a.f2.length : Int) + (b.f0 + (b.f2.length : Int))) = a.f0 + (a.f2.length : Int) + (b.f0 + (b.f2.length : Int)) := by unfold wrap64; omega
    have e : i = (joinC a b).f2.length + 1 := by omega
    rw [← e]
    refine Ev.step (f := fun _ => some ((joinC a b).f0, outL (joinC a b) i)) (fun k => ?_) (Ev.now _)
    simp only [kimberliteref03_Joined.l0]
    rw [row_to_w ha (by omega), Option.bind_some, row_to_w hb (by omega), Option.bind_some, ew, if_neg (by rw [hJ0]; omega)]
  | d + 1, i, hi => by
    have h1 := ha.a0
    have h2 := ha.b0
    have h3 := ha.len
    have k1 := hb.a0
    have k2 := hb.b0
    have k3 := hb.len
    have hJ0 : (joinC a b).f0 = a.f0 + b.f0 := rfl
    have hJl := joinC_len a b
    have ew : wrap64 (a.f0 + (a.f2.length : Int) + (b.f0 + (b.f2.length : Int))) = a.f0 + (a.f2.length : Int) + (b.f0 + (b.f2.length : Int)) := by unfold wrap64; omega
    have ih := joined_loop ha hb hn hm d (i + 1) (by omega)
    have hz : inC (joinC a b) ((joinC a b).f0 + (i : Int)) := by unfold inC; omega
    have e1 : wrap64 ((joinC a b).f0 + (i : Int) + 1) = (joinC a b).f0 + ((i + 1 : Nat) : Int) := by rw [hJ0]; unfold wrap64; omega
    rw [outL_succ (joinC a b) i, ← e1] at ih
    have hj := jin_loop ha hb hn hm hz (joinC a b).f0 (outL (joinC a b) i) (by rw [outL_len]; omega) ih (a.f2.length + 1) 0 0 false (by omega) (fun h => by cases h) (fun ⟨y, y1, y2, _⟩ => by omega)
    rw [show a.f0 + ((0 : Nat) : Int) = a.f0 by omega] at hj
    refine Ev.step (fun k => ?_) hj
    simp only [kimberliteref03_Joined.l0]
    rw [row_to_w ha (by omega), Option.bind_some, row_to_w hb (by omega), Option.bind_some, ew, if_pos (by rw [hJ0]; omega)]
theorem joined_ev {n m : Nat} {a b : S24} (ha : Wd n a) (hb : Wd m b) (hn : n ≤ 100) (hm : m ≤ 100) : Ev (fun k => kimberliteref03_Joined.f k a.f0 (outL a (a.f2.length + 1)) b.f0 (outL b (b.f2.length + 1))) ((joinC a b).f0, outL (joinC a b) ((joinC a b).f2.length + 1)) := by
  have h1 := ha.a0
  have h2 := ha.b0
  have k1 := hb.a0
  have k2 := hb.b0
  have hJ0 : (joinC a b).f0 = a.f0 + b.f0 := rfl
  have hl := joined_loop ha hb hn hm ((joinC a b).f2.length + 1) 0 (by omega)
  rw [show (joinC a b).f0 + ((0 : Nat) : Int) = (joinC a b).f0 by omega, nil_out] at hl
  unfold kimberliteref03_Joined.f
  have e : wrap64 (a.f0 + b.f0) = (joinC a b).f0 := by rw [hJ0]; unfold wrap64; omega
  rw [e]
  exact hl
end Go.Proofs.Ytingjpcgehgiiaa.Pr
end
