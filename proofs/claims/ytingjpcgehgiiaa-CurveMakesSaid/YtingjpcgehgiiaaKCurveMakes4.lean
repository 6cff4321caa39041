/- What the proof of the law needs, trimmed and merged by wip/pack.py out of the texts YtingjpcgehgiiaaPrx5, YtingjpcgehgiiaaPrx6, YtingjpcgehgiiaaPrx7, YtingjpcgehgiiaaPrx8, YtingjpcgehgiiaaRfp. No condition. -/
import Derived.Test.YtingjpcgehgiiaaKCurveMakes0
import Derived.Test.YtingjpcgehgiiaaKCurveMakes1
import Derived.Test.YtingjpcgehgiiaaKCurveMakes2
import Derived.Test.YtingjpcgehgiiaaKCurveMakes3
section
namespace Go.Proofs.Ytingjpcgehgiiaa.Pr
open Go.RowKit Go.Proofs.YtingjpcgehgiiaaW.PrintWords Go.Proofs.YtingjpcgehgiiaaW.PrintLast Go.Proofs.YtingjpcgehgiiaaW.PrintMore
attribute [local go_sem] max2_int min2_int max_two min_two max_three min_three max_four min_four   -- for this text's walks alone
set_option linter.unusedVariables false
set_option linter.unusedSimpArgs false
mutual
def kimberliteref03_Valid.j0 : Nat → Bool → Int → Int → List Int → Option (Bool)
 | 0, _, _, _, _ => none
 | k + 1, x27, x159000, x159001, x159002 => if x27 = true then (some false) else (kimberliteref03_Valid.l0 k 0 x159000 x159001 x159002)
def kimberliteref03_Valid.l0 : Nat → Int → Int → Int → List Int → Option (Bool)
 | 0, _, _, _, _ => none
 | k + 1, x3, x159000, x159001, x159002 => if x3 < (x159002.length : Int) then (if 0 ≤ x3 then (if (rd x159002 x3) < (-1048576) then (kimberliteref03_Valid.j2 k x3 true x159000 x159001 x159002) else (if (rd x159002 x3) > 1048576 then (kimberliteref03_Valid.j2 k x3 true x159000 x159001 x159002) else (if x3 > 0 then (if 0 ≤ (wrap64 (x3 - 1)) then (if (wrap64 (x3 - 1)) < (x159002.length : Int) then (kimberliteref03_Valid.j2 k x3 (decide ((rd x159002 (wrap64 (x3 - 1))) > (rd x159002 x3))) x159000 x159001 x159002) else (none)) else (none)) else (kimberliteref03_Valid.j2 k x3 false x159000 x159001 x159002)))) else (none)) else (some true)
def kimberliteref03_Valid.j2 : Nat → Int → Bool → Int → Int → List Int → Option (Bool)
 | 0, _, _, _, _, _ => none
 | k + 1, x3, x66, x159000, x159001, x159002 => if x66 = true then (some false) else (kimberliteref03_Valid.l0 k (wrap64 (x3 + 1)) x159000 x159001 x159002)
end
def kimberliteref03_Valid.f (k : Nat) (a0_0 : Int) (a0_1 : Int) (l0_2 : List Int) : Option (Bool) := if a0_0 < (-1048576) then (kimberliteref03_Valid.j0 k true a0_0 a0_1 l0_2) else (if a0_0 > 1048576 then (kimberliteref03_Valid.j0 k true a0_0 a0_1 l0_2) else (if a0_1 < (-1099511627776) then (kimberliteref03_Valid.j0 k true a0_0 a0_1 l0_2) else (if a0_1 > 1099511627776 then (kimberliteref03_Valid.j0 k true a0_0 a0_1 l0_2) else (kimberliteref03_Valid.j0 k (decide ((l0_2.length : Int) > 64)) a0_0 a0_1 l0_2))))
theorem kimberliteref03_Valid.mono_l : ∀ k, (∀ y0 y1 y2 y3, LeO (kimberliteref03_Valid.j0 k y0 y1 y2 y3) (kimberliteref03_Valid.j0 (k + 1) y0 y1 y2 y3)) ∧ (∀ y0 y1 y2 y3, LeO (kimberliteref03_Valid.l0 k y0 y1 y2 y3) (kimberliteref03_Valid.l0 (k + 1) y0 y1 y2 y3)) ∧ (∀ y0 y1 y2 y3 y4, LeO (kimberliteref03_Valid.j2 k y0 y1 y2 y3 y4) (kimberliteref03_Valid.j2 (k + 1) y0 y1 y2 y3 y4))
 | 0 => ⟨fun _ _ _ _ r h => by simp [kimberliteref03_Valid.j0] at h, fun _ _ _ _ r h => by simp [kimberliteref03_Valid.l0] at h, fun _ _ _ _ _ r h => by simp [kimberliteref03_Valid.j2] at h⟩
 | k + 1 => by
  obtain ⟨ih0, ih1, ih2⟩ := kimberliteref03_Valid.mono_l k; refine ⟨?_, ?_, ?_⟩
  · intro y0 y1 y2 y3; unfold kimberliteref03_Valid.j0
    repeat' first
    | (with_reducible exact ih0 _ _ _ _)
    | (with_reducible exact ih1 _ _ _ _)
    | (with_reducible exact ih2 _ _ _ _ _)
    | (with_reducible exact LeO.refl _)
    | (with_reducible exact LeO.none _)
    | (with_reducible refine LeO.ite ?_ ?_)
    | (with_reducible refine LeO.bind ?_ (fun _ => ?_))
    | exact ih0 _ _ _ _
    | exact ih1 _ _ _ _
    | exact ih2 _ _ _ _ _
    | exact LeO.none _
    | refine LeO.ite ?_ ?_
    | refine LeO.bind ?_ (fun _ => ?_)
  · intro y0 y1 y2 y3; unfold kimberliteref03_Valid.l0
    repeat' first
    | (with_reducible exact ih0 _ _ _ _)
    | (with_reducible exact ih1 _ _ _ _)
    | (with_reducible exact ih2 _ _ _ _ _)
    | (with_reducible exact LeO.refl _)
    | (with_reducible exact LeO.none _)
    | (with_reducible refine LeO.ite ?_ ?_)
    | (with_reducible refine LeO.bind ?_ (fun _ => ?_))
    | exact ih0 _ _ _ _
    | exact ih1 _ _ _ _
    | exact ih2 _ _ _ _ _
    | exact LeO.none _
    | refine LeO.ite ?_ ?_
    | refine LeO.bind ?_ (fun _ => ?_)
  · intro y0 y1 y2 y3 y4; unfold kimberliteref03_Valid.j2
    repeat' first
    | (with_reducible exact ih0 _ _ _ _)
    | (with_reducible exact ih1 _ _ _ _)
    | (with_reducible exact ih2 _ _ _ _ _)
    | (with_reducible exact LeO.refl _)
    | (with_reducible exact LeO.none _)
    | (with_reducible refine LeO.ite ?_ ?_)
    | (with_reducible refine LeO.bind ?_ (fun _ => ?_))
    | exact ih0 _ _ _ _
    | exact ih1 _ _ _ _
    | exact ih2 _ _ _ _ _
    | exact LeO.none _
    | refine LeO.ite ?_ ?_
    | refine LeO.bind ?_ (fun _ => ?_)
theorem kimberliteref03_Valid.mono : ∀ a0 a1 a2 k, LeO (kimberliteref03_Valid.f k a0 a1 a2) (kimberliteref03_Valid.f (k + 1) a0 a1 a2) := by
 intro a0 a1 a2 k; obtain ⟨ih0, ih1, ih2⟩ := kimberliteref03_Valid.mono_l k; unfold kimberliteref03_Valid.f
 repeat' first
  | (with_reducible exact ih0 _ _ _ _)
  | (with_reducible exact ih1 _ _ _ _)
  | (with_reducible exact ih2 _ _ _ _ _)
  | (with_reducible exact LeO.refl _)
  | (with_reducible exact LeO.none _)
  | (with_reducible refine LeO.ite ?_ ?_)
  | (with_reducible refine LeO.bind ?_ (fun _ => ?_))
  | exact ih0 _ _ _ _
  | exact ih1 _ _ _ _
  | exact ih2 _ _ _ _ _
  | exact LeO.none _
  | refine LeO.ite ?_ ?_
  | refine LeO.bind ?_ (fun _ => ?_)
set_option maxHeartbeats 8000000 in
set_option maxRecDepth 100000 in
theorem kimberliteref03_Valid.calls (k : Nat) (a0_0 : Int) (a0_1 : Int) (A0_2 : Option Addr) (c0_2 : Nat) (l0_2 : List Int) (r : Bool) (w : World) (hr0_2 : Kd.C (Kd.int .i64) w A0_2 l0_2.length l0_2) (hc0_2 : l0_2.length ≤ c0_2) (h : kimberliteref03_Valid.f k a0_0 a0_1 l0_2 = some r) :
 Calls Try.prog 30 #[.agg #[.int .i64 a0_0, .int .i64 a0_1, .slice A0_2 l0_2.length c0_2]] w fun e w' => e = .returned (.bool r) ∧ Below w.heap.size w w' := by
 have hu24 := Try.underlying24; have HR0_2 := Aside0.mk hr0_2; have HC0_2 := Aside0.mk hc0_2; clear hr0_2 hc0_2; have HB := Aside0.mk (Below.refl w.heap.size w); have H : (if a0_0 < (-1048576) then (kimberliteref03_Valid.j0 k true a0_0 a0_1 l0_2) else (if a0_0 > 1048576 then (kimberliteref03_Valid.j0 k true a0_0 a0_1 l0_2) else (if a0_1 < (-1099511627776) then (kimberliteref03_Valid.j0 k true a0_0 a0_1 l0_2) else (if a0_1 > 1099511627776 then (kimberliteref03_Valid.j0 k true a0_0 a0_1 l0_2) else (kimberliteref03_Valid.j0 k (decide ((l0_2.length : Int) > 64)) a0_0 a0_1 l0_2))))) = some r := h; clear h; have HC2 := Aside0.mk H; clear H; go_enter Try.func30, Try.ntmps30
 go_upto_region 1 with (first | ((with_reducible refine gate_dst (N := 1) rfl ?_); (try (refine gate_guard (by rfl) ?_; dsimp only)); refine box_event ?hg (N := 1) ?hd (cs := #[.int .i64 a0_0, .int .i64 a0_1, .slice A0_2 l0_2.length c0_2]) (t := 24) ?hr ?_; (case hd => rfl); (case hg => rfl); (case hr => first | (go_simp; done) | (go_simp; rfl)); intro gb158 hg w3 hbox hb; have BK158 := Aside0.mk (hbox); have GW158 := Aside0.mk ((by rw [hg]; exact (below_size (nC HB)) : w.heap.size ≤ gb158)); have GE158 := Aside0.mk ((by rw [hg]; exact (below_size (nC HB)) : w.heap.size ≤ gb158)); replace HB := Aside0.mk (below_step (nC HB) hb); clear hb hbox hg))
 repeat (go_quiet (fail); go_upto_region 1 with (first | ((with_reducible refine gate_dst (N := 1) rfl ?_); (try (refine gate_guard (by rfl) ?_; dsimp only)); refine box_event ?hg (N := 1) ?hd (cs := #[.int .i64 a0_0, .int .i64 a0_1, .slice A0_2 l0_2.length c0_2]) (t := 24) ?hr ?_; (case hd => rfl); (case hg => rfl); (case hr => first | (go_simp; done) | (go_simp; rfl)); intro gb158 hg w3 hbox hb; have BK158 := Aside0.mk (hbox); have GW158 := Aside0.mk ((by rw [hg]; exact (below_size (nC HB)) : w.heap.size ≤ gb158)); have GE158 := Aside0.mk ((by rw [hg]; exact (below_size (nC HB)) : w.heap.size ≤ gb158)); replace HB := Aside0.mk (below_step (nC HB) hb); clear hb hbox hg)))
 (try simp only [Act.put, zs1, zs2, zs3]); go_cut [27] (fun v27 wc => ∃ (kq : Nat) (x27_1 : Bool), v27 = .bool x27_1 ∧ Aside0 (kimberliteref03_Valid.j0 kq x27_1 a0_0 a0_1 l0_2 = some r) ∧ Aside0 (kq ≤ k) ∧ Aside0 (wc.heap[gb158]? = some (.cells #[.int .i64 a0_0, .int .i64 a0_1, (.slice A0_2 l0_2.length c0_2)] 24 (0, 0))) ∧ Aside0 (Below w.heap.size w wc))
 case first =>
  have H := HC2.out; clear HC2
  by_cases c4 : a0_0 < (-1048576)
  · rw [if_pos c4] at H; have c4b0 : decide (a0_0 < (-1048576)) = true := decide_eq_true c4; clear c4; (first | rw [c4b0] | (simp only [i64_w, i32_w]; rw [c4b0]) | skip); have H' := Aside0.mk H; clear H; obtain ⟨hcz5_0, hcz5_1, hcz5_2, hfz5_0, hfz5_1, hfz5_2⟩ := cz3 BK158; go_wp2
    repeat (go_quiet (fail); try go_wp2)
    go_meet
    case rel => exact ⟨_, (true), (by first | rfl | (simp; done) | (simp [*]; done)), H', ⟨by first | omega | exact Nat.le_refl _⟩, ⟨nK BK158⟩, ⟨nC HB⟩⟩
  · rw [if_neg c4] at H; have c4b0 : decide (a0_0 < (-1048576)) = false := decide_eq_false c4; clear c4; (first | rw [c4b0] | (simp only [i64_w, i32_w]; rw [c4b0]) | skip)
    by_cases c6 : a0_0 > 1048576
    · rw [if_pos c6] at H; have c6b0 : decide (1048576 < a0_0) = true := decide_eq_true c6; clear c6; have H' := Aside0.mk H; clear H; obtain ⟨hcz7_0, hcz7_1, hcz7_2, hfz7_0, hfz7_1, hfz7_2⟩ := cz3 BK158; go_wp2
      repeat (go_quiet (fail); try go_wp2)
      go_meet
      case rel => exact ⟨_, (true), (by first | rfl | (simp; done) | (simp [*]; done)), H', ⟨by first | omega | exact Nat.le_refl _⟩, ⟨nK BK158⟩, ⟨nC HB⟩⟩
    · rw [if_neg c6] at H; have c6b0 : decide (1048576 < a0_0) = false := decide_eq_false c6; clear c6
      by_cases c8 : a0_1 < (-1099511627776)
      · rw [if_pos c8] at H; have c8b0 : decide (a0_1 < (-1099511627776)) = true := decide_eq_true c8; clear c8; have H' := Aside0.mk H; clear H; obtain ⟨hcz9_0, hcz9_1, hcz9_2, hfz9_0, hfz9_1, hfz9_2⟩ := cz3 BK158; go_wp2
        repeat (go_quiet (fail); try go_wp2)
        go_meet
        case rel => exact ⟨_, (true), (by first | rfl | (simp; done) | (simp [*]; done)), H', ⟨by first | omega | exact Nat.le_refl _⟩, ⟨nK BK158⟩, ⟨nC HB⟩⟩
      · rw [if_neg c8] at H; have c8b0 : decide (a0_1 < (-1099511627776)) = false := decide_eq_false c8; clear c8
        by_cases c10 : a0_1 > 1099511627776
        · rw [if_pos c10] at H; have c10b0 : decide (1099511627776 < a0_1) = true := decide_eq_true c10; clear c10; have H' := Aside0.mk H; clear H; obtain ⟨hcz11_0, hcz11_1, hcz11_2, hfz11_0, hfz11_1, hfz11_2⟩ := cz3 BK158; go_wp2
          repeat (go_quiet (fail); try go_wp2)
          go_meet
          case rel => exact ⟨_, (true), (by first | rfl | (simp; done) | (simp [*]; done)), H', ⟨by first | omega | exact Nat.le_refl _⟩, ⟨nK BK158⟩, ⟨nC HB⟩⟩
        · rw [if_neg c10] at H; have c10b0 : decide (1099511627776 < a0_1) = false := decide_eq_false c10; clear c10; have H' := Aside0.mk H; clear H; obtain ⟨hcz12_0, hcz12_1, hcz12_2, hfz12_0, hfz12_1, hfz12_2⟩ := cz3 BK158; go_wp2
          repeat (go_quiet (fail); try go_wp2)
          go_meet
          case rel => exact ⟨_, (decide ((l0_2.length : Int) > 64)), (by first | rfl | (simp; done) | (simp [*]; done)), H', ⟨by first | omega | exact Nat.le_refl _⟩, ⟨nK BK158⟩, ⟨nC HB⟩⟩
 case rest =>
  clear HC2; obtain ⟨kq, x27_1, rfl, HA, HJ1, BK158, HB⟩ := hcut
  cases kq with
  | zero => exact absurd HA.out (by simp [kimberliteref03_Valid.j0])
  | succ kj1 =>
   have H := HA.out; clear HA; simp only [kimberliteref03_Valid.j0] at H
   by_cases c13 : x27_1 = true
   · subst c13; replace H : (some false) = some r := by rw [if_pos rfl] at H; exact H
     obtain rfl := Option.some.inj H; go_wp2
     repeat (go_quiet (fail); try go_wp2)
     go_ret
     exact ⟨by first | rfl | (simp [errW_none, errW_some] <;> rfl) | (simp [*, errW_none, errW_some] <;> rfl), nC HB⟩
   · replace c13 := Bool.eq_false_iff.mpr c13; subst c13; replace H : (kimberliteref03_Valid.l0 kj1 0 a0_0 a0_1 l0_2) = some r := by rw [if_neg (show ¬ (false = true) by decide)] at H; exact H
     have H' := Aside0.mk H; clear H; go_wp2
     repeat (go_quiet (fail); try go_wp2)
     go_loopg [3] kj1 (fun kq v3 w' => ∃ (x3_2 : Int), v3 = .int .i64 x3_2 ∧ Aside0 (kimberliteref03_Valid.l0 kq x3_2 a0_0 a0_1 l0_2 = some r) ∧ Aside0 (kq ≤ kj1) ∧ Aside0 (w'.heap[gb158]? = some (.cells #[.int .i64 a0_0, .int .i64 a0_1, (.slice A0_2 l0_2.length c0_2)] 24 (0, 0))) ∧ Aside0 (Below w.heap.size w w'))
     case atStart => exact ⟨(0), (by first | rfl | (simp; done) | (simp [*]; done)), H', ⟨Nat.le_refl _⟩, ⟨nK BK158⟩, ⟨nC HB⟩⟩
     case round =>
      clear H'; obtain ⟨x3_2, rfl, HA, HK2, BK158, HB⟩ := hrel
      cases gk with
      | zero => exact absurd HA.out (by simp [kimberliteref03_Valid.l0])
      | succ k2 =>
       have H := HA.out; clear HA; simp only [kimberliteref03_Valid.l0] at H
       by_cases c14 : x3_2 < (l0_2.length : Int)
       · rw [if_pos c14] at H; have c14b0 : decide (x3_2 < (l0_2.length : Int)) = true := decide_eq_true c14; clear c14; have HC15 := Aside0.mk H; clear H; obtain ⟨hcz16_0, hcz16_1, hcz16_2, hfz16_0, hfz16_1, hfz16_2⟩ := cz3 BK158; go_upto_region 6 with (fail)
         repeat (go_quiet (fail); go_upto_region 6 with (fail))
         go_cut [66] (fun v66 wc => ∃ (kq : Nat) (x66_14 : Bool), v66 = .bool x66_14 ∧ Aside0 (kimberliteref03_Valid.j2 kq x3_2 x66_14 a0_0 a0_1 l0_2 = some r) ∧ Aside0 (kq ≤ k2) ∧ Aside0 (wc.heap[gb158]? = some (.cells #[.int .i64 a0_0, .int .i64 a0_1, (.slice A0_2 l0_2.length c0_2)] 24 (0, 0))) ∧ Aside0 (Below w.heap.size w wc))
         case first =>
          have H := HC15.out; clear HC15
          by_cases c17 : 0 ≤ x3_2
          · rw [if_pos c17] at H; have c17b0 : decide (0 ≤ x3_2) = true := decide_eq_true c17; clear c17; (first | rw [c17b0] | (simp only [i64_w, i32_w]; rw [c17b0]) | skip)
            by_cases c18 : (rd l0_2 x3_2) < (-1048576)
            · rw [if_pos c18] at H; have c18b0 : decide ((rd l0_2 x3_2) < (-1048576)) = true := decide_eq_true c18; clear c18; have H' := Aside0.mk H; clear H; obtain ⟨hcz19_0, hcz19_1, hcz19_2, hfz19_0, hfz19_1, hfz19_2⟩ := cz3 BK158; have p159 : 0 ≤ (x3_2 : Int) := of_decide_eq_true (by first | (with_reducible assumption) | assumption); have q159 : x3_2 < (l0_2.length : Int) := of_decide_eq_true (by first | (with_reducible assumption) | assumption); obtain ⟨ad159, e159, hx159_0⟩ := Kd.at_int HR0_2.out x3_2 p159 q159
              cases e159
              replace hx159_0 := (HB.out.cell (World.block_lt_of_cell? w _ hx159_0)).trans hx159_0; replace p159 := eq_true p159; replace q159 := eq_true q159; go_wp2
              repeat (go_quiet (fail); try go_wp2)
              go_meet
              case rel => exact ⟨_, (true), (by first | rfl | (simp; done) | (simp [*]; done)), H', ⟨by have := HJ1.out; have := HK2.out; first | omega | exact Nat.le_refl _⟩, ⟨nK BK158⟩, ⟨nC HB⟩⟩
            · rw [if_neg c18] at H; have c18b0 : decide ((rd l0_2 x3_2) < (-1048576)) = false := decide_eq_false c18; clear c18
              by_cases c20 : (rd l0_2 x3_2) > 1048576
              · rw [if_pos c20] at H; have c20b0 : decide (1048576 < (rd l0_2 x3_2)) = true := decide_eq_true c20; clear c20; have H' := Aside0.mk H; clear H; obtain ⟨hcz21_0, hcz21_1, hcz21_2, hfz21_0, hfz21_1, hfz21_2⟩ := cz3 BK158; have p159 : 0 ≤ (x3_2 : Int) := of_decide_eq_true (by first | (with_reducible assumption) | assumption); have q159 : x3_2 < (l0_2.length : Int) := of_decide_eq_true (by first | (with_reducible assumption) | assumption); obtain ⟨ad159, e159, hx159_0⟩ := Kd.at_int HR0_2.out x3_2 p159 q159
                cases e159
                replace hx159_0 := (HB.out.cell (World.block_lt_of_cell? w _ hx159_0)).trans hx159_0; replace p159 := eq_true p159; replace q159 := eq_true q159; have p160 : 0 ≤ (x3_2 : Int) := of_decide_eq_true (by first | (with_reducible assumption) | assumption); have q160 : x3_2 < (l0_2.length : Int) := of_decide_eq_true (by first | (with_reducible assumption) | assumption); obtain ⟨ad160, e160, hx160_0⟩ := Kd.at_int HR0_2.out x3_2 p160 q160; obtain rfl : ad159 = ad160 := (by injection e160); replace hx160_0 := (HB.out.cell (World.block_lt_of_cell? w _ hx160_0)).trans hx160_0; replace p160 := eq_true p160; replace q160 := eq_true q160; go_wp2
                repeat (go_quiet (fail); try go_wp2)
                go_meet
                case rel => exact ⟨_, (true), (by first | rfl | (simp; done) | (simp [*]; done)), H', ⟨by have := HJ1.out; have := HK2.out; first | omega | exact Nat.le_refl _⟩, ⟨nK BK158⟩, ⟨nC HB⟩⟩
              · rw [if_neg c20] at H; have c20b0 : decide (1048576 < (rd l0_2 x3_2)) = false := decide_eq_false c20; clear c20
                by_cases c22 : x3_2 > 0
                · rw [if_pos c22] at H; have c22b0 : decide (0 < x3_2) = true := decide_eq_true c22; clear c22; obtain ⟨ji23, hji23⟩ : ∃ j_ : Int, (wrap64 (x3_2 - 1)) = j_ := ⟨_, rfl⟩; replace H : (if 0 ≤ (ji23) then (if (ji23) < (l0_2.length : Int) then (kimberliteref03_Valid.j2 k2 x3_2 (decide ((rd l0_2 (ji23)) > (rd l0_2 x3_2))) a0_0 a0_1 l0_2) else (none)) else (none)) = some r := by first | (rw [hji23] at H; exact H) | (simp only [hji23] at H ⊢; exact H)
                  have hji23w : (IntKind.i64.wrap (x3_2 - 1)) = ji23 := (i64_w _).trans hji23
                  by_cases c24 : 0 ≤ (ji23)
                  · rw [if_pos c24] at H; have c24b0 : decide (0 ≤ (ji23)) = true := decide_eq_true c24; clear c24
                    by_cases c25 : (ji23) < (l0_2.length : Int)
                    · rw [if_pos c25] at H; have c25b0 : decide ((ji23) < (l0_2.length : Int)) = true := decide_eq_true c25; clear c25; have H' := Aside0.mk H; clear H; obtain ⟨hcz26_0, hcz26_1, hcz26_2, hfz26_0, hfz26_1, hfz26_2⟩ := cz3 BK158; have p159 : 0 ≤ (x3_2 : Int) := of_decide_eq_true (by first | (with_reducible assumption) | assumption); have q159 : x3_2 < (l0_2.length : Int) := of_decide_eq_true (by first | (with_reducible assumption) | assumption); obtain ⟨ad159, e159, hx159_0⟩ := Kd.at_int HR0_2.out x3_2 p159 q159
                      cases e159
                      replace hx159_0 := (HB.out.cell (World.block_lt_of_cell? w _ hx159_0)).trans hx159_0; replace p159 := eq_true p159; replace q159 := eq_true q159; have p160 : 0 ≤ (x3_2 : Int) := of_decide_eq_true (by first | (with_reducible assumption) | assumption); have q160 : x3_2 < (l0_2.length : Int) := of_decide_eq_true (by first | (with_reducible assumption) | assumption); obtain ⟨ad160, e160, hx160_0⟩ := Kd.at_int HR0_2.out x3_2 p160 q160; obtain rfl : ad159 = ad160 := (by injection e160); replace hx160_0 := (HB.out.cell (World.block_lt_of_cell? w _ hx160_0)).trans hx160_0; replace p160 := eq_true p160; replace q160 := eq_true q160; have p161 : 0 ≤ ((ji23) : Int) := of_decide_eq_true (by first | (with_reducible assumption) | assumption); have q161 : (ji23) < (l0_2.length : Int) := of_decide_eq_true (by first | (with_reducible assumption) | assumption); obtain ⟨ad161, e161, hx161_0⟩ := Kd.at_int HR0_2.out (ji23) p161 q161; obtain rfl : ad159 = ad161 := (by injection e161); replace hx161_0 := (HB.out.cell (World.block_lt_of_cell? w _ hx161_0)).trans hx161_0; replace p161 := eq_true p161; replace q161 := eq_true q161; have p162 : 0 ≤ (x3_2 : Int) := of_decide_eq_true (by first | (with_reducible assumption) | assumption); have q162 : x3_2 < (l0_2.length : Int) := of_decide_eq_true (by first | (with_reducible assumption) | assumption); obtain ⟨ad162, e162, hx162_0⟩ := Kd.at_int HR0_2.out x3_2 p162 q162; obtain rfl : ad159 = ad162 := (by injection e162); replace hx162_0 := (HB.out.cell (World.block_lt_of_cell? w _ hx162_0)).trans hx162_0; replace p162 := eq_true p162; replace q162 := eq_true q162; go_wp2
                      repeat (go_quiet (fail); try go_wp2)
                      go_meet
                      case rel => exact ⟨_, (decide ((rd l0_2 (ji23)) > (rd l0_2 x3_2))), (by first | rfl | (simp; done) | (simp only [← hji23] <;> (first | rfl | simp)) | (simp [*]; done)), H', ⟨by have := HJ1.out; have := HK2.out; first | omega | exact Nat.le_refl _⟩, ⟨nK BK158⟩, ⟨nC HB⟩⟩
                    · rw [if_neg c25] at H; exact absurd H (by simp)
                  · rw [if_neg c24] at H; exact absurd H (by simp)
                · rw [if_neg c22] at H; have c22b0 : decide (0 < x3_2) = false := decide_eq_false c22; clear c22; have H' := Aside0.mk H; clear H; obtain ⟨hcz27_0, hcz27_1, hcz27_2, hfz27_0, hfz27_1, hfz27_2⟩ := cz3 BK158; have p159 : 0 ≤ (x3_2 : Int) := of_decide_eq_true (by first | (with_reducible assumption) | assumption); have q159 : x3_2 < (l0_2.length : Int) := of_decide_eq_true (by first | (with_reducible assumption) | assumption); obtain ⟨ad159, e159, hx159_0⟩ := Kd.at_int HR0_2.out x3_2 p159 q159
                  cases e159
                  replace hx159_0 := (HB.out.cell (World.block_lt_of_cell? w _ hx159_0)).trans hx159_0; replace p159 := eq_true p159; replace q159 := eq_true q159; have p160 : 0 ≤ (x3_2 : Int) := of_decide_eq_true (by first | (with_reducible assumption) | assumption); have q160 : x3_2 < (l0_2.length : Int) := of_decide_eq_true (by first | (with_reducible assumption) | assumption); obtain ⟨ad160, e160, hx160_0⟩ := Kd.at_int HR0_2.out x3_2 p160 q160; obtain rfl : ad159 = ad160 := (by injection e160); replace hx160_0 := (HB.out.cell (World.block_lt_of_cell? w _ hx160_0)).trans hx160_0; replace p160 := eq_true p160; replace q160 := eq_true q160; go_wp2
                  repeat (go_quiet (fail); try go_wp2)
                  go_meet
                  case rel => exact ⟨_, (false), (by first | rfl | (simp; done) | (simp [*]; done)), H', ⟨by have := HJ1.out; have := HK2.out; first | omega | exact Nat.le_refl _⟩, ⟨nK BK158⟩, ⟨nC HB⟩⟩
          · rw [if_neg c17] at H; exact absurd H (by simp)
         case rest =>
          clear HC15; obtain ⟨kq, x66_14, rfl, HA, HJ14, BK158, HB⟩ := hcut
          cases kq with
          | zero => exact absurd HA.out (by simp [kimberliteref03_Valid.j2])
          | succ kj14 =>
           have H := HA.out; clear HA; simp only [kimberliteref03_Valid.j2] at H
           by_cases c28 : x66_14 = true
           · subst c28; replace H : (some false) = some r := by rw [if_pos rfl] at H; exact H
             obtain rfl := Option.some.inj H; go_wp2
             repeat (go_quiet (fail); try go_wp2)
             go_ret
             exact ⟨by first | rfl | (simp [errW_none, errW_some] <;> rfl) | (simp [*, errW_none, errW_some] <;> rfl), nC HB⟩
           · replace c28 := Bool.eq_false_iff.mpr c28; subst c28; replace H : (kimberliteref03_Valid.l0 kj14 (wrap64 (x3_2 + 1)) a0_0 a0_1 l0_2) = some r := by rw [if_neg (show ¬ (false = true) by decide)] at H; exact H
             have H' := Aside0.mk H; clear H; go_wp2
             repeat (go_quiet (fail); try go_wp2)
             go_roundg kj14
             case measure => have := HJ1.out; have := HK2.out; have := HJ14.out; omega
             case rel => exact ⟨(wrap64 (x3_2 + 1)), (by first | rfl | (simp; done) | (simp [*]; done)), H', ⟨by have := HJ1.out; have := HK2.out; have := HJ14.out; omega⟩, ⟨nK BK158⟩, ⟨nC HB⟩⟩
       · rw [if_neg c14] at H; have c14b0 : decide (x3_2 < (l0_2.length : Int)) = false := decide_eq_false c14; clear c14; obtain rfl := Option.some.inj H; obtain ⟨hcz29_0, hcz29_1, hcz29_2, hfz29_0, hfz29_1, hfz29_2⟩ := cz3 BK158; go_wp2
         repeat (go_quiet (fail); try go_wp2)
         go_ret
         exact ⟨by first | rfl | (simp [errW_none, errW_some] <;> rfl) | (simp [*, errW_none, errW_some] <;> rfl), nC HB⟩
end Go.Proofs.Ytingjpcgehgiiaa.Pr
end
section
namespace Go.Proofs.Ytingjpcgehgiiaa.Pr
open Go.RowKit Go.Proofs.YtingjpcgehgiiaaW.PrintWords Go.Proofs.YtingjpcgehgiiaaW.PrintLast Go.Proofs.YtingjpcgehgiiaaW.PrintMore
attribute [local go_sem] max2_int min2_int max_two min_two max_three min_three max_four min_four   -- for this text's walks alone
set_option linter.unusedVariables false
set_option linter.unusedSimpArgs false
def kimberliteref03_Row_has.f (a0_0 : Int) (l0_1 : List Int) (a1 : Int) : Option (Bool) := if a1 ≥ a0_0 then ((kimberliteref03_Row_To.f a0_0 l0_1).bind fun t164 => (some (decide (a1 ≤ t164)))) else (some false)
set_option maxHeartbeats 8000000 in
set_option maxRecDepth 100000 in
theorem kimberliteref03_Row_has.calls (a0_0 : Int) (A0_1 : Option Addr) (c0_1 : Nat) (l0_1 : List Int) (a1 : Int) (r : Bool) (w : World) (hr0_1 : Kd.C (Kd.int .i64) w A0_1 l0_1.length l0_1) (hc0_1 : l0_1.length ≤ c0_1) (h : kimberliteref03_Row_has.f a0_0 l0_1 a1 = some r) :
 Calls Try.prog 67 #[.agg #[.int .i64 a0_0, .slice A0_1 l0_1.length c0_1], .int .i64 a1] w fun e w' => e = .returned (.bool r) ∧ Below w.heap.size w w' := by
 have hu78 := Try.underlying78; have HR0_1 := Aside0.mk hr0_1; have HC0_1 := Aside0.mk hc0_1; clear hr0_1 hc0_1; have HB := Aside0.mk (Below.refl w.heap.size w); have H : (if a1 ≥ a0_0 then ((kimberliteref03_Row_To.f a0_0 l0_1).bind fun t164 => (some (decide (a1 ≤ t164)))) else (some false)) = some r := h; clear h
 by_cases c3 : a1 ≥ a0_0
 · rw [if_pos c3] at H; have c3b0 : decide (a0_0 ≤ a1) = true := decide_eq_true c3; clear c3; replace H := Option.bind_eq_some_iff.mp H; obtain ⟨t164, A40, H⟩ := H; replace H : (some (decide (a1 ≤ t164))) = some r := H; have A4 := Aside0.mk A40; clear A40; obtain rfl := Option.some.inj H; go_enter Try.func67, Try.ntmps67
   go_wp2_with (first | ((with_reducible refine gate_dst (N := 2) rfl ?_); refine box_event ?hg (N := 2) ?hd (cs := #[.int .i64 a0_0, .slice A0_1 l0_1.length c0_1]) (t := 78) ?hr ?_; (case hd => rfl); (case hg => rfl); (case hr => first | (go_simp; done) | (go_simp; rfl)); intro gb163 hg w5 hbox hb; have BK163 := Aside0.mk (hbox); have GW163 := Aside0.mk ((by rw [hg]; exact (below_size (nC HB)) : w.heap.size ≤ gb163)); have GE163 := Aside0.mk ((by rw [hg]; exact (below_size (nC HB)) : w.heap.size ≤ gb163)); replace HB := Aside0.mk (below_step (nC HB) hb); clear hb hbox hg; obtain ⟨hcz6_0, hcz6_1, hfz6_0, hfz6_1⟩ := cz2 BK163) | (go_at_call 65; (with_reducible refine (kimberliteref03_Row_To.calls a0_0 _ _ l0_1 t164 _ ?side1 ?side2 A4.out).mono ?_); (case side1 => exact nS HR0_1 HB); (case side2 => exact HC0_1.out); rintro e w7 ⟨rfl, hb⟩; replace BK163 := Aside0.mk (nB BK163 hb); replace HB := Aside0.mk (below_step (nC HB) hb); (try clear hb); (try clear hb2); (try clear hk); (try clear hi)))
   go_ret
   exact ⟨by first | rfl | (simp [errW_none, errW_some] <;> rfl) | (simp [*, errW_none, errW_some] <;> rfl), nC HB⟩
 · rw [if_neg c3] at H; have c3b0 : decide (a0_0 ≤ a1) = false := decide_eq_false c3; clear c3; obtain rfl := Option.some.inj H; go_enter Try.func67, Try.ntmps67
   go_wp2_with (first | ((with_reducible refine gate_dst (N := 2) rfl ?_); refine box_event ?hg (N := 2) ?hd (cs := #[.int .i64 a0_0, .slice A0_1 l0_1.length c0_1]) (t := 78) ?hr ?_; (case hd => rfl); (case hg => rfl); (case hr => first | (go_simp; done) | (go_simp; rfl)); intro gb163 hg w8 hbox hb; have BK163 := Aside0.mk (hbox); have GW163 := Aside0.mk ((by rw [hg]; exact (below_size (nC HB)) : w.heap.size ≤ gb163)); have GE163 := Aside0.mk ((by rw [hg]; exact (below_size (nC HB)) : w.heap.size ≤ gb163)); replace HB := Aside0.mk (below_step (nC HB) hb); clear hb hbox hg; obtain ⟨hcz9_0, hcz9_1, hfz9_0, hfz9_1⟩ := cz2 BK163))
   go_ret
   exact ⟨by first | rfl | (simp [errW_none, errW_some] <;> rfl) | (simp [*, errW_none, errW_some] <;> rfl), nC HB⟩
end Go.Proofs.Ytingjpcgehgiiaa.Pr
end
section
namespace Go.Proofs.Ytingjpcgehgiiaa.Pr
open Go.RowKit Go.Proofs.YtingjpcgehgiiaaW.PrintWords Go.Proofs.YtingjpcgehgiiaaW.PrintLast Go.Proofs.YtingjpcgehgiiaaW.PrintMore
attribute [local go_sem] max2_int min2_int max_two min_two max_three min_three max_four min_four   -- for this text's walks alone
set_option linter.unusedVariables false
set_option linter.unusedSimpArgs false
def kimberliteref03_In.l0 : Nat → Int → Int → List Int → Int → Int → List Int → Option (Int × Int × List Int × Bool)
 | 0, _, _, _, _, _, _ => none
 | k + 1, x5, x175000, x175001, x178000, x178001, x178002 => if x5 < (x175001.length : Int) then (if 0 ≤ x5 then (if 0 ≤ (wrap64 (x5 - 1)) then (if (wrap64 (x5 - 1)) < (x175001.length : Int) then (if x178002.length < 17592186044416 then (kimberliteref03_In.l0 k (wrap64 (x5 + 1)) x175000 x175001 x178000 x178001 (x178002 ++ [wrap64 ((rd x175001 x5) - (rd x175001 (wrap64 (x5 - 1))))])) else (none)) else (none)) else (none)) else (none)) else ((kimberliteref03_Valid.f k x178000 x178001 x178002).bind fun t183 => (some (x178000, x178001, x178002, t183)))
def kimberliteref03_In.f (k : Nat) (a0_0 : Int) (l0_1 : List Int) : Option (Int × Int × List Int × Bool) := if 0 < (l0_1.length : Int) then (kimberliteref03_In.l0 k 1 a0_0 l0_1 a0_0 (rd l0_1 0) ([] : List Int)) else (none)
theorem kimberliteref03_In.mono_l : ∀ k, (∀ y0 y1 y2 y3 y4 y5, LeO (kimberliteref03_In.l0 k y0 y1 y2 y3 y4 y5) (kimberliteref03_In.l0 (k + 1) y0 y1 y2 y3 y4 y5))
 | 0 => fun _ _ _ _ _ _ r h => by simp [kimberliteref03_In.l0] at h
 | k + 1 => by
  have ih0 := kimberliteref03_In.mono_l k
  · intro y0 y1 y2 y3 y4 y5; unfold kimberliteref03_In.l0
    repeat' first
    | (with_reducible exact ih0 _ _ _ _ _ _)
    | (with_reducible exact kimberliteref03_Valid.mono _ _ _ _)
    | (with_reducible exact LeO.refl _)
    | (with_reducible exact LeO.none _)
    | (with_reducible refine LeO.ite ?_ ?_)
    | (with_reducible refine LeO.bind ?_ (fun _ => ?_))
    | exact ih0 _ _ _ _ _ _
    | exact kimberliteref03_Valid.mono _ _ _ _
    | exact LeO.none _
    | refine LeO.ite ?_ ?_
    | refine LeO.bind ?_ (fun _ => ?_)
theorem kimberliteref03_In.mono : ∀ a0 a1 k, LeO (kimberliteref03_In.f k a0 a1) (kimberliteref03_In.f (k + 1) a0 a1) := by
 intro a0 a1 k; have ih0 := kimberliteref03_In.mono_l k; unfold kimberliteref03_In.f
 repeat' first
  | (with_reducible exact ih0 _ _ _ _ _ _)
  | (with_reducible exact kimberliteref03_Valid.mono _ _ _ _)
  | (with_reducible exact LeO.refl _)
  | (with_reducible exact LeO.none _)
  | (with_reducible refine LeO.ite ?_ ?_)
  | (with_reducible refine LeO.bind ?_ (fun _ => ?_))
  | exact ih0 _ _ _ _ _ _
  | exact kimberliteref03_Valid.mono _ _ _ _
  | exact LeO.none _
  | refine LeO.ite ?_ ?_
  | refine LeO.bind ?_ (fun _ => ?_)
def kimberliteref03_In.T1 : Bool × List (List Nat × List Nat) := (true, [([], []), ([0], [0]), ([], []), ([2], [2]), ([3], [3]), ([4], [4]), ([1, 5], [1, 5]), ([], []), ([7, 6, 0, 1, 2, 3, 4, 5, 6, 7], [6, 7])])
def kimberliteref03_In.B1 : List Nat := [0, 1, 0, 4, 12, 28, 63, 0, 255]
theorem kimberliteref03_In.tab1 : rtab .any (opsOf Try.f85 1) = kimberliteref03_In.T1 := by kernel_rfl
theorem kimberliteref03_In.bits1 : waitsOk kimberliteref03_In.T1.2 kimberliteref03_In.B1 = true := by kernel_rfl
def kimberliteref03_In.T5 : Bool × List (List Nat × List Nat) := (true, [([], []), ([0], [0]), ([], []), ([2], [2]), ([], []), ([3, 4], [3, 4]), ([5], [5]), ([], []), ([7], [7]), ([], []), ([9], [9]), ([8, 10], [8, 10]), ([11], [11]), ([6, 12], [6, 12]), ([13], [13]), ([1, 14], [1, 14]), ([0, 1, 2, 3, 4, 5, 6, 7, 8, 9, 10, 11, 12, 13, 14, 15], []), ([16, 15, 15, 0, 1, 2, 3, 4, 5, 6, 7, 8, 9, 10, 11, 12, 13, 14, 15], [15, 16])])
def kimberliteref03_In.B5 : List Nat := [0, 1, 0, 4, 0, 28, 60, 0, 128, 0, 512, 1920, 3968, 8188, 16380, 32767, 65535, 131071]
theorem kimberliteref03_In.tab5 : rtab .any (opsOf Try.f85 5) = kimberliteref03_In.T5 := by kernel_rfl
theorem kimberliteref03_In.bits5 : waitsOk kimberliteref03_In.T5.2 kimberliteref03_In.B5 = true := by kernel_rfl
set_option maxHeartbeats 8000000 in
set_option maxRecDepth 100000 in
theorem kimberliteref03_In.calls (k : Nat) (a0_0 : Int) (A0_1 : Option Addr) (c0_1 : Nat) (l0_1 : List Int) (r1 : Int) (r2 : Int) (r3 : List Int) (r4 : Bool) (w : World) (hr0_1 : Kd.C (Kd.int .i64) w A0_1 l0_1.length l0_1) (hc0_1 : l0_1.length ≤ c0_1) (h : kimberliteref03_In.f k a0_0 l0_1 = some (r1, r2, r3, r4)) :
 Calls Try.prog 85 #[.agg #[.int .i64 a0_0, .slice A0_1 l0_1.length c0_1]] w fun e w' => ∃ v2_ : Value, e = .returned (.tuple #[.agg #[.int .i64 r1, .int .i64 r2, v2_], .bool r4]) ∧ Kd.R (Kd.int .i64) 3 w' w.heap.size (fun _ => True) v2_ r3 ∧ Below w.heap.size w w' := by
 have hu78 := Try.underlying78; have hu24 := Try.underlying24; have HR0_1 := Aside0.mk hr0_1; have HC0_1 := Aside0.mk hc0_1; clear hr0_1 hc0_1; have HB := Aside0.mk (Below.refl w.heap.size w); have H : (if 0 < (l0_1.length : Int) then (kimberliteref03_In.l0 k 1 a0_0 l0_1 a0_0 (rd l0_1 0) ([] : List Int)) else (none)) = some (r1, r2, r3, r4) := h; clear h
 by_cases c2 : 0 < (l0_1.length : Int)
 · rw [if_pos c2] at H; have c2b0 : decide (0 < (l0_1.length : Int)) = true := decide_eq_true c2; have c2b1 : decide (0 < l0_1.length) = true := decide_eq_true (by omega); clear c2; have H' := Aside0.mk H; clear H; go_enter Try.func85, Try.ntmps85
   try go_wp2_with (first | ((with_reducible refine gate_dst (N := 1) rfl ?_); refine box_event ?hg (N := 1) ?hd (cs := #[.int .i64 a0_0, .slice A0_1 l0_1.length c0_1]) (t := 78) ?hr ?_; (case hd => rfl); (case hg => rfl); (case hr => first | (go_simp; done) | (go_simp; rfl)); intro gb174 hg w3 hbox hb; have BK174 := Aside0.mk (hbox); have GW174 := Aside0.mk ((by rw [hg]; exact (below_size (nC HB)) : w.heap.size ≤ gb174)); have GE174 := Aside0.mk ((by rw [hg]; exact (below_size (nC HB)) : w.heap.size ≤ gb174)); replace HB := Aside0.mk (below_step (nC HB) hb); clear hb hbox hg) | ((with_reducible refine gate_dst (N := 2) rfl ?_); refine box_event ?hg (N := 2) ?hd (cs := #[.int .i64 0, .int .i64 0, .slice none 0 0]) (t := 24) ?hr ?_; (case hd => rfl); (case hg => rfl); (case hr => first | (go_simp; done) | (go_simp; rfl)); intro gb175 hg w4 hbox hb; have BK175 := Aside0.mk (hbox); have GW175 := Aside0.mk ((by rw [hg]; exact (below_size (nC HB)) : w.heap.size ≤ gb175)); have GE175 := Aside0.mk ((by rw [hg]; exact (below_size (nC HB)) : w.heap.size ≤ gb175)); replace HB := Aside0.mk (below_step (nC HB) hb); have NB174_175 := Aside0.mk ((by rw [hg]; exact Nat.ne_of_lt (blk_lt (nK BK174)) : gb174 ≠ gb175)); have NB175_174 := Aside0.mk ((by rw [hg]; exact Nat.ne_of_gt (blk_lt (nK BK174)) : gb175 ≠ gb174)); replace BK174 := Aside0.mk (nB BK174 hb); clear hb hbox hg))
   replace BK174 := Aside0.mk (blk_drew BK174.out); replace BK175 := Aside0.mk (blk_drew BK175.out); replace HB := Aside0.mk (below_drew1 HB.out); have p176 : 0 ≤ (0 : Int) := (by omega); have q176 : 0 < (l0_1.length : Int) := of_decide_eq_true (by first | (with_reducible assumption) | assumption); obtain ⟨ad176, e176, hx176_0⟩ := Kd.at_int HR0_1.out 0 p176 q176; have hw176_0 := hx176_0; (try rw [show ((0 : Int)).toNat = 0 from rfl] at hw176_0); (try rw [show 0 * 1 = 0 from rfl] at hw176_0); (try rw [Addr.add_zero'] at hw176_0)
   cases e176
   have qi176 : (0 < l0_1.length) = True := eq_true (by omega); (try rw [show ((0 : Int)).toNat = 0 from rfl] at hx176_0); (try rw [Addr.add_zero'] at hx176_0); replace hx176_0 := (HB.out.cell (World.block_lt_of_cell? w _ hx176_0)).trans hx176_0; replace p176 := eq_true p176; replace q176 := eq_true q176; refine start_ (n := 9) (S := fun w' => w'.cell? ⟨gb174, 0, none⟩ = some (.int .i64 a0_0) ∧ w'.cell? ⟨gb174, 1, none⟩ = some (.slice (some ad176) l0_1.length c0_1) ∧ w'.cell? ad176 = some (.int .i64 (rd l0_1 0))) (ds := []) #[false, false, false, false, false, false, false, false, false] (by kernel_rfl) rfl rfl ⟨(blk_cell BK174.out 0).trans rfl, (blk_cell BK174.out 1).trans rfl, ((HB.out.cell (World.block_lt_of_cell? w _ hw176_0)).trans hw176_0)⟩ (fun hHeld => ?_); refine with_tabW kimberliteref03_In.tab1 kimberliteref03_In.bits1 (fun HT_ HW_ => ?_); generalize w4.drew = w5 at BK174 BK175 HB hx176_0 hHeld ⊢; refine pure_ (i := 0) (N := some 6) (v := ?_) (a' := ?_) #[true, false, false, false, false, false, false, false, false] rfl rfl (any_of HT_.out (by kernel_rfl)) (fun _ _ _ h => h) (Or.inl ⟨by rfl, ?_⟩) ?_ ?_; rotate_left
   · intro w'; go_simp
     with_reducible rfl
   rotate_left
   · simp only [Act.put, zs1, zs2, zs3, i64_w, i32_w]; rfl
   refine pure_ (i := 2) (N := some 8) (v := ?_) (a' := ?_) #[true, false, true, false, false, false, false, false, false] rfl rfl (any_of HT_.out (by kernel_rfl)) (fun _ _ _ h => h) (Or.inl ⟨by rfl, ?_⟩) ?_ ?_; rotate_left
   · intro w'; go_simp
     with_reducible rfl
   rotate_left
   · simp only [Act.put, zs1, zs2, zs3, i64_w, i32_w]; rfl
   refine take_ (i := 1) (N := some 7) (v := ?_) (a' := ?_) #[true, true, true, false, false, false, false, false, false] rfl rfl (take_ofW HT_.out HW_.out (by kernel_rfl)) (fun _ _ _ h => h) (Or.inl ⟨by rfl, ?_⟩) hHeld ?_ ?_; rotate_left
   · rintro w' ⟨s0, s1, s2⟩; go_simp
     with_reducible rfl
   rotate_left
   · simp only [Act.put, zs1, zs2, zs3, i64_w, i32_w]; rfl
   refine take_ (i := 3) (N := some 9) (v := ?_) (a' := ?_) #[true, true, true, true, false, false, false, false, false] rfl rfl (take_ofW HT_.out HW_.out (by kernel_rfl)) (fun _ _ _ h => h) (Or.inl ⟨by rfl, ?_⟩) hHeld ?_ ?_; rotate_left
   · rintro w' ⟨s0, s1, s2⟩; go_simp
     with_reducible rfl
   rotate_left
   · simp only [Act.put, zs1, zs2, zs3, i64_w, i32_w]; rfl
   refine pure_ (i := 4) (N := some 10) (v := ?_) (a' := ?_) #[true, true, true, true, true, false, false, false, false] rfl rfl (any_of HT_.out (by kernel_rfl)) (fun _ _ _ h => h) (Or.inl ⟨by rfl, ?_⟩) ?_ ?_; rotate_left
   · intro w'; go_simp
     with_reducible rfl
   rotate_left
   · simp only [Act.put, zs1, zs2, zs3, i64_w, i32_w]; rfl
   refine take_ (i := 5) (N := some 11) (v := ?_) (a' := ?_) #[true, true, true, true, true, true, false, false, false] rfl rfl (take_ofW HT_.out HW_.out (by kernel_rfl)) (fun _ _ _ h => h) (Or.inl ⟨by rfl, ?_⟩) hHeld ?_ ?_; rotate_left
   · rintro w' ⟨s0, s1, s2⟩; go_simp
     with_reducible rfl
   rotate_left
   · simp only [Act.put, zs1, zs2, zs3, i64_w, i32_w]; rfl
   refine pure_ (i := 6) (N := some 12) (v := ?_) (a' := ?_) #[true, true, true, true, true, true, true, false, false] rfl rfl (any_of HT_.out (by kernel_rfl)) (fun _ _ _ h => h) (Or.inl ⟨by rfl, ?_⟩) ?_ ?_; rotate_left
   · intro w'; go_simp
     with_reducible rfl
   rotate_left
   · simp only [Act.put, zs1, zs2, zs3, i64_w, i32_w]; rfl
   refine one_ (i := 7) (N := some 4) #[true, true, true, true, true, true, true, true, false] rfl rfl (one_of HT_.out (by kernel_rfl)) (by decide) (fun K hK => ?_); refine box_step ?hg (N := 4) ?hd (cs := #[.int .i64 0, .int .i64 0, .slice none 0 0]) (t := 24) ?hr ?_; (case hd => rfl); (case hg => rfl); (case hr => first | (go_simp; done) | (go_simp; rfl)); intro gb177 hg w6 hbox hb; have BK177 := Aside0.mk (hbox); have GW177 := Aside0.mk ((by rw [hg]; exact (below_size (nC HB)) : w.heap.size ≤ gb177)); have GE177 := Aside0.mk ((by rw [hg]; exact (below_size (nC HB)) : w.heap.size ≤ gb177)); replace HB := Aside0.mk (below_step (nC HB) hb); have NB174_177 := Aside0.mk ((by rw [hg]; exact Nat.ne_of_lt (blk_lt (nK BK174)) : gb174 ≠ gb177)); have NB177_174 := Aside0.mk ((by rw [hg]; exact Nat.ne_of_gt (blk_lt (nK BK174)) : gb177 ≠ gb174)); replace BK174 := Aside0.mk (nB BK174 hb); have NB175_177 := Aside0.mk ((by rw [hg]; exact Nat.ne_of_lt (blk_lt (nK BK175)) : gb175 ≠ gb177)); have NB177_175 := Aside0.mk ((by rw [hg]; exact Nat.ne_of_gt (blk_lt (nK BK175)) : gb177 ≠ gb175)); replace BK175 := Aside0.mk (nB BK175 hb); clear hb hbox hg; refine hK.out _ _ ⟨(blk_cell BK174.out 0).trans rfl, (blk_cell BK174.out 1).trans rfl, ((HB.out.cell (World.block_lt_of_cell? w _ hw176_0)).trans hw176_0)⟩ (fun hHeld => ?_); clear hK K; refine norm_ (a' := ?_) ?_ ?_; rotate_left
   · show Act.put _ (some 4) _ = _; simp only [Act.put, zs1, zs2, zs3, i64_w, i32_w]; rfl
   refine one_ (i := 8) (N := none) #[true, true, true, true, true, true, true, true, true] rfl rfl (one_of HT_.out (by kernel_rfl)) (by decide) (fun K hK => ?_); have hs7 : w6.cell? ⟨gb177, 0, none⟩ = some (.int .i64 0) := (blk_cell BK177.out 0).trans rfl; have hfs7 := blk_frozen BK177.out 0; have hns7_0 := NB174_177.out; have hns7_1 := NB175_177.out; have hms7_0 := NB177_174.out; have hms7_1 := NB177_175.out; have hs8 : w6.cell? ⟨gb177, 1, none⟩ = some (.int .i64 0) := (blk_cell BK177.out 1).trans rfl; have hfs8 := blk_frozen BK177.out 1; have hns8_0 := NB174_177.out; have hns8_1 := NB175_177.out; have hms8_0 := NB177_174.out; have hms8_1 := NB177_175.out; have hs9 : w6.cell? ⟨gb177, 2, none⟩ = some (.slice none 0 0) := (blk_cell BK177.out 2).trans rfl; have hfs9 := blk_frozen BK177.out 2; have hns9_0 := NB174_177.out; have hns9_1 := NB175_177.out; have hms9_0 := NB177_174.out; have hms9_1 := NB177_175.out; refine skip_ (w1 := ?_) (by rfl) rfl ?_ ?_; rotate_left
   · go_simp
     rfl
   refine hK.out _ _ ⟨((cell_far (p := ⟨gb177, _, none⟩) NB174_177.out _).trans (((cell_far (p := ⟨gb177, _, none⟩) NB174_177.out _).trans (((cell_far (p := ⟨gb177, _, none⟩) NB174_177.out _).trans (hHeld.1)))))), ((cell_far (p := ⟨gb177, _, none⟩) NB174_177.out _).trans (((cell_far (p := ⟨gb177, _, none⟩) NB174_177.out _).trans (((cell_far (p := ⟨gb177, _, none⟩) NB174_177.out _).trans (hHeld.2.1)))))), ((cell_far (p := ⟨gb177, _, none⟩) (by first | exact Nat.ne_of_lt (Nat.lt_of_lt_of_le (by have := World.block_lt_of_cell? _ _ hw176_0; first | rwa [add_block] at this | exact this) GW177.out) | (rw [add_block]; exact Nat.ne_of_lt (Nat.lt_of_lt_of_le (by have := World.block_lt_of_cell? _ _ hw176_0; first | rwa [add_block] at this | exact this) GW177.out)) | (show (Addr.add _ _).block ≠ _; rw [add_block]; exact Nat.ne_of_lt (Nat.lt_of_lt_of_le (by have := World.block_lt_of_cell? _ _ hw176_0; first | rwa [add_block] at this | exact this) GW177.out)) | (dsimp only; exact Nat.ne_of_lt (Nat.lt_of_lt_of_le (by have := World.block_lt_of_cell? _ _ hw176_0; first | rwa [add_block] at this | exact this) GW177.out))) _).trans (((cell_far (p := ⟨gb177, _, none⟩) (by first | exact Nat.ne_of_lt (Nat.lt_of_lt_of_le (by have := World.block_lt_of_cell? _ _ hw176_0; first | rwa [add_block] at this | exact this) GW177.out) | (rw [add_block]; exact Nat.ne_of_lt (Nat.lt_of_lt_of_le (by have := World.block_lt_of_cell? _ _ hw176_0; first | rwa [add_block] at this | exact this) GW177.out)) | (show (Addr.add _ _).block ≠ _; rw [add_block]; exact Nat.ne_of_lt (Nat.lt_of_lt_of_le (by have := World.block_lt_of_cell? _ _ hw176_0; first | rwa [add_block] at this | exact this) GW177.out)) | (dsimp only; exact Nat.ne_of_lt (Nat.lt_of_lt_of_le (by have := World.block_lt_of_cell? _ _ hw176_0; first | rwa [add_block] at this | exact this) GW177.out))) _).trans (((cell_far (p := ⟨gb177, _, none⟩) (by first | exact Nat.ne_of_lt (Nat.lt_of_lt_of_le (by have := World.block_lt_of_cell? _ _ hw176_0; first | rwa [add_block] at this | exact this) GW177.out) | (rw [add_block]; exact Nat.ne_of_lt (Nat.lt_of_lt_of_le (by have := World.block_lt_of_cell? _ _ hw176_0; first | rwa [add_block] at this | exact this) GW177.out)) | (show (Addr.add _ _).block ≠ _; rw [add_block]; exact Nat.ne_of_lt (Nat.lt_of_lt_of_le (by have := World.block_lt_of_cell? _ _ hw176_0; first | rwa [add_block] at this | exact this) GW177.out)) | (dsimp only; exact Nat.ne_of_lt (Nat.lt_of_lt_of_le (by have := World.block_lt_of_cell? _ _ hw176_0; first | rwa [add_block] at this | exact this) GW177.out))) _).trans (hHeld.2.2))))))⟩ (fun hHeld => ?_); clear hK K; refine done_ (done_of HT_.out (by kernel_rfl)) ?_; try go_wp2
   go_loopg [5] k (fun kq v5 w' => ∃ (x5_1 : Int) (x178002_1 : List Int) (u178002 : Value), v5 = .int .i64 x5_1 ∧ Aside0 (kimberliteref03_In.l0 kq x5_1 a0_0 l0_1 a0_0 (rd l0_1 0) x178002_1 = some (r1, r2, r3, r4)) ∧ Aside0 (kq ≤ k) ∧ Aside0 (Kd.R (Kd.int .i64) 3 w' w.heap.size (fun _ => True) u178002 x178002_1) ∧ Aside0 (w'.heap[gb174]? = some (.cells #[.int .i64 a0_0, (.slice (some ad176) l0_1.length c0_1)] 78 (0, 0))) ∧ Aside0 (w'.heap[gb175]? = some (.cells #[.int .i64 0, .int .i64 0, (.slice none 0 0)] 24 (0, 0))) ∧ Aside0 (w'.heap[gb177]? = some (.cells #[.int .i64 a0_0, .int .i64 (rd l0_1 0), u178002] 24 (0, 0))) ∧ Aside0 (Below w.heap.size w w'))
   case atStart => exact ⟨(1), (([] : List Int)), (.slice none 0 0), (by first | rfl | (simp; done) | (simp [*]; done)), H', ⟨Nat.le_refl _⟩, ⟨by first | exact Kd.R_nil _ _ _ _ _ | exact Kd.N_nil _ _ _ _ _ | exact Kd.V_nil _ _ _ _ _ | exact Kd.Q_nil _ _ _ _ _ | exact Kd.S_nil _ _ _ _ _⟩, ⟨by (with_reducible repeat (first | refine blk_drewN ?_ _ | refine blk_drew ?_ | refine blk_alloc ?_ _)); refine blk_far ?_ NB174_177.out _; (with_reducible repeat (first | refine blk_drewN ?_ _ | refine blk_drew ?_ | refine blk_alloc ?_ _)); refine blk_far ?_ NB174_177.out _; (with_reducible repeat (first | refine blk_drewN ?_ _ | refine blk_drew ?_ | refine blk_alloc ?_ _)); refine blk_far ?_ NB174_177.out _; (with_reducible repeat (first | refine blk_drewN ?_ _ | refine blk_drew ?_ | refine blk_alloc ?_ _)); exact BK174.out⟩, ⟨by (with_reducible repeat (first | refine blk_drewN ?_ _ | refine blk_drew ?_ | refine blk_alloc ?_ _)); refine blk_far ?_ NB175_177.out _; (with_reducible repeat (first | refine blk_drewN ?_ _ | refine blk_drew ?_ | refine blk_alloc ?_ _)); refine blk_far ?_ NB175_177.out _; (with_reducible repeat (first | refine blk_drewN ?_ _ | refine blk_drew ?_ | refine blk_alloc ?_ _)); refine blk_far ?_ NB175_177.out _; (with_reducible repeat (first | refine blk_drewN ?_ _ | refine blk_drew ?_ | refine blk_alloc ?_ _)); exact BK175.out⟩, ⟨by (with_reducible repeat (first | refine blk_drewN ?_ _ | refine blk_drew ?_ | refine blk_alloc ?_ _)); refine blk_put (cs := #[.int .i64 a0_0, .int .i64 (rd l0_1 0), .slice none 0 0]) ?_ 2 _ rfl; (with_reducible repeat (first | refine blk_drewN ?_ _ | refine blk_drew ?_ | refine blk_alloc ?_ _)); refine blk_put (cs := #[.int .i64 a0_0, .int .i64 0, .slice none 0 0]) ?_ 1 _ rfl; (with_reducible repeat (first | refine blk_drewN ?_ _ | refine blk_drew ?_ | refine blk_alloc ?_ _)); refine blk_put (cs := #[.int .i64 0, .int .i64 0, .slice none 0 0]) ?_ 0 _ rfl; (with_reducible repeat (first | refine blk_drewN ?_ _ | refine blk_drew ?_ | refine blk_alloc ?_ _)); exact BK177.out⟩, ⟨nC HB⟩⟩
   case round =>
    clear H'; obtain ⟨x5_1, x178002_1, u178002, rfl, HA, HK1, HO_178002, BK174, BK175, BK177, HB⟩ := hrel
    cases gk with
    | zero => exact absurd HA.out (by simp [kimberliteref03_In.l0])
    | succ k1 =>
     have H := HA.out; clear HA; simp only [kimberliteref03_In.l0] at H
     by_cases c10 : x5_1 < (l0_1.length : Int)
     · rw [if_pos c10] at H; have c10b0 : decide (x5_1 < (l0_1.length : Int)) = true := decide_eq_true c10; clear c10
       by_cases c11 : 0 ≤ x5_1
       · rw [if_pos c11] at H; have c11b0 : decide (0 ≤ x5_1) = true := decide_eq_true c11; clear c11; obtain ⟨ji12, hji12⟩ : ∃ j_ : Int, (wrap64 (x5_1 - 1)) = j_ := ⟨_, rfl⟩; replace H : (if 0 ≤ (ji12) then (if (ji12) < (l0_1.length : Int) then (if x178002_1.length < 17592186044416 then (kimberliteref03_In.l0 k1 (wrap64 (x5_1 + 1)) a0_0 l0_1 a0_0 (rd l0_1 0) (x178002_1 ++ [wrap64 ((rd l0_1 x5_1) - (rd l0_1 (ji12)))])) else (none)) else (none)) else (none)) = some (r1, r2, r3, r4) := by first | (rw [hji12] at H; exact H) | (simp only [hji12] at H ⊢; exact H)
         have hji12w : (IntKind.i64.wrap (x5_1 - 1)) = ji12 := (i64_w _).trans hji12
         by_cases c13 : 0 ≤ (ji12)
         · rw [if_pos c13] at H; have c13b0 : decide (0 ≤ (ji12)) = true := decide_eq_true c13; clear c13
           by_cases c14 : (ji12) < (l0_1.length : Int)
           · rw [if_pos c14] at H; have c14b0 : decide ((ji12) < (l0_1.length : Int)) = true := decide_eq_true c14; clear c14
             by_cases c15 : x178002_1.length < 17592186044416
             · rw [if_pos c15] at H; have LMc15 := Aside0.mk c15; clear c15; obtain ⟨y180, hy180⟩ : ∃ y_ : List Int, y_ = (x178002_1 ++ [wrap64 ((rd l0_1 x5_1) - (rd l0_1 (ji12)))]) := ⟨_, rfl⟩; replace H : (kimberliteref03_In.l0 k1 (wrap64 (x5_1 + 1)) a0_0 l0_1 a0_0 (rd l0_1 0) y180) = some (r1, r2, r3, r4) := by first | (rw [hy180]; with_reducible exact H) | (have H2_ := (Option.bind_some _ _).symm.trans H; rw [hy180]; with_reducible exact H2_) | (have H2_ := (Option.bind_some _ _).symm.trans H; with_reducible exact H2_) | with_reducible exact H | (rw [hy180]; exact H) | exact H
               have Ny180 := Aside0.mk hy180; clear hy180; have H' := Aside0.mk H; clear H; have hnb16 := NB174_175.out; have hnc16 := NB175_174.out; have hnb17 := NB174_177.out; have hnc17 := NB177_174.out; obtain ⟨hcz18_0, hcz18_1, hfz18_0, hfz18_1⟩ := cz2 BK174; try go_wp2
               replace HO_178002 := Aside0.mk (Kd.R_drew HO_178002.out); replace BK174 := Aside0.mk (blk_drew BK174.out); replace BK175 := Aside0.mk (blk_drew BK175.out); replace BK177 := Aside0.mk (blk_drew BK177.out); replace HB := Aside0.mk (below_drew1 HB.out); have p178 : 0 ≤ (x5_1 : Int) := of_decide_eq_true (by first | (with_reducible assumption) | assumption); have q178 : x5_1 < (l0_1.length : Int) := of_decide_eq_true (by first | (with_reducible assumption) | assumption); obtain ⟨ad178, e178, hx178_0⟩ := Kd.at_int HR0_1.out x5_1 p178 q178; have hw178_0 := hx178_0; obtain rfl : ad176 = ad178 := (by injection e178); replace hx178_0 := (HB.out.cell (World.block_lt_of_cell? w _ hx178_0)).trans hx178_0; replace p178 := eq_true p178; replace q178 := eq_true q178; have p179 : 0 ≤ ((ji12) : Int) := of_decide_eq_true (by first | (with_reducible assumption) | assumption); have q179 : (ji12) < (l0_1.length : Int) := of_decide_eq_true (by first | (with_reducible assumption) | assumption); obtain ⟨ad179, e179, hx179_0⟩ := Kd.at_int HR0_1.out (ji12) p179 q179; have hw179_0 := hx179_0; obtain rfl : ad176 = ad179 := (by injection e179); replace hx179_0 := (HB.out.cell (World.block_lt_of_cell? w _ hx179_0)).trans hx179_0; replace p179 := eq_true p179; replace q179 := eq_true q179; refine start_ (n := 18) (S := fun w' => w'.cell? ⟨gb177, 0, none⟩ = some (.int .i64 a0_0) ∧ w'.cell? ⟨gb177, 1, none⟩ = some (.int .i64 (rd l0_1 0)) ∧ w'.cell? ⟨gb177, 2, none⟩ = some (u178002) ∧ w'.cell? ⟨gb174, 0, none⟩ = some (.int .i64 a0_0) ∧ w'.cell? ⟨gb174, 1, none⟩ = some (.slice (some ad176) l0_1.length c0_1) ∧ w'.cell? (ad176.add (x5_1).toNat) = some (.int .i64 (rd l0_1 x5_1)) ∧ w'.cell? (ad176.add ((ji12)).toNat) = some (.int .i64 (rd l0_1 (ji12)))) (ds := [17]) #[false, false, false, false, false, false, false, false, false, false, false, false, false, false, false, false, false, false] (by kernel_rfl) rfl rfl ⟨(blk_cell BK177.out 0).trans rfl, (blk_cell BK177.out 1).trans rfl, (blk_cell BK177.out 2).trans rfl, (blk_cell BK174.out 0).trans rfl, (blk_cell BK174.out 1).trans rfl, ((HB.out.cell (World.block_lt_of_cell? w _ hw178_0)).trans hw178_0), ((HB.out.cell (World.block_lt_of_cell? w _ hw179_0)).trans hw179_0)⟩ (fun hHeld => ?_); refine with_tabW kimberliteref03_In.tab5 kimberliteref03_In.bits5 (fun HT_ HW_ => ?_); generalize wr.drew = w19 at HO_178002 BK174 BK175 BK177 HB hx178_0 hx179_0 hHeld ⊢; refine pure_ (i := 0) (N := some 20) (v := ?_) (a' := ?_) #[true, false, false, false, false, false, false, false, false, false, false, false, false, false, false, false, false, false] rfl rfl (any_of HT_.out (by kernel_rfl)) (fun _ _ _ h => h) (Or.inl ⟨by rfl, ?_⟩) ?_ ?_; rotate_left
               · intro w'; go_simp
                 with_reducible rfl
               rotate_left
               · simp only [Act.put, zs1, zs2, zs3, i64_w, i32_w]; rfl
               refine pure_ (i := 2) (N := some 22) (v := ?_) (a' := ?_) #[true, false, true, false, false, false, false, false, false, false, false, false, false, false, false, false, false, false] rfl rfl (any_of HT_.out (by kernel_rfl)) (fun _ _ _ h => h) (Or.inl ⟨by rfl, ?_⟩) ?_ ?_; rotate_left
               · intro w'; go_simp
                 with_reducible rfl
               rotate_left
               · simp only [Act.put, zs1, zs2, zs3, i64_w, i32_w]; rfl
               refine pure_ (i := 4) (N := some 24) (v := ?_) (a' := ?_) #[true, false, true, false, true, false, false, false, false, false, false, false, false, false, false, false, false, false] rfl rfl (any_of HT_.out (by kernel_rfl)) (fun _ _ _ h => h) (Or.inl ⟨by rfl, ?_⟩) ?_ ?_; rotate_left
               · intro w'; go_simp
                 with_reducible rfl
               rotate_left
               · simp only [Act.put, zs1, zs2, zs3, i64_w, i32_w]; rfl
               refine pure_ (i := 7) (N := some 27) (v := ?_) (a' := ?_) #[true, false, true, false, true, false, false, true, false, false, false, false, false, false, false, false, false, false] rfl rfl (any_of HT_.out (by kernel_rfl)) (fun _ _ _ h => h) (Or.inl ⟨by rfl, ?_⟩) ?_ ?_; rotate_left
               · intro w'; go_simp
                 with_reducible rfl
               rotate_left
               · simp only [Act.put, zs1, zs2, zs3, i64_w, i32_w]; rfl
               refine pure_ (i := 9) (N := some 29) (v := ?_) (a' := ?_) #[true, false, true, false, true, false, false, true, false, true, false, false, false, false, false, false, false, false] rfl rfl (any_of HT_.out (by kernel_rfl)) (fun _ _ _ h => h) (Or.inl ⟨by rfl, ?_⟩) ?_ ?_; rotate_left
               · intro w'; go_simp
                 with_reducible rfl
               rotate_left
               · simp only [Act.put, zs1, zs2, zs3, i64_w, i32_w]; rfl
               refine pure_ (i := 10) (N := some 30) (v := ?_) (a' := ?_) #[true, false, true, false, true, false, false, true, false, true, true, false, false, false, false, false, false, false] rfl rfl (any_of HT_.out (by kernel_rfl)) (fun _ _ _ h => h) (Or.inl ⟨by rfl, ?_⟩) ?_ ?_; rotate_left
               · intro w'; go_simp
                 with_reducible rfl
               rotate_left
               · simp only [Act.put, zs1, zs2, zs3, i64_w, i32_w]; rfl
               refine take_ (i := 1) (N := some 21) (v := ?_) (a' := ?_) #[true, true, true, false, true, false, false, true, false, true, true, false, false, false, false, false, false, false] rfl rfl (take_ofW HT_.out HW_.out (by kernel_rfl)) (fun _ _ _ h => h) (Or.inl ⟨by rfl, ?_⟩) hHeld ?_ ?_; rotate_left
               · rintro w' ⟨s0, zs1, zs2, zs3, s4, s5, s6⟩; go_simp
                 with_reducible rfl
               rotate_left
               · simp only [Act.put, zs1, zs2, zs3, i64_w, i32_w]; rfl
               refine take_ (i := 3) (N := some 23) (v := ?_) (a' := ?_) #[true, true, true, true, true, false, false, true, false, true, true, false, false, false, false, false, false, false] rfl rfl (take_ofW HT_.out HW_.out (by kernel_rfl)) (fun _ _ _ h => h) (Or.inl ⟨by rfl, ?_⟩) hHeld ?_ ?_; rotate_left
               · rintro w' ⟨s0, zs1, zs2, zs3, s4, s5, s6⟩; go_simp
                 with_reducible rfl
               rotate_left
               · simp only [Act.put, zs1, zs2, zs3, i64_w, i32_w]; rfl
               refine pure_ (i := 5) (N := some 25) (v := ?_) (a' := ?_) #[true, true, true, true, true, true, false, true, false, true, true, false, false, false, false, false, false, false] rfl rfl (any_of HT_.out (by kernel_rfl)) (fun _ _ _ h => h) (Or.inl ⟨by rfl, ?_⟩) ?_ ?_; rotate_left
               · intro w'; go_simp
                 with_reducible rfl
               rotate_left
               · simp only [Act.put, zs1, zs2, zs3, i64_w, i32_w]; rfl
               refine take_ (i := 6) (N := some 26) (v := ?_) (a' := ?_) #[true, true, true, true, true, true, true, true, false, true, true, false, false, false, false, false, false, false] rfl rfl (take_ofW HT_.out HW_.out (by kernel_rfl)) (fun _ _ _ h => h) (Or.inl ⟨by rfl, ?_⟩) hHeld ?_ ?_; rotate_left
               · rintro w' ⟨s0, zs1, zs2, zs3, s4, s5, s6⟩; go_simp
                 with_reducible rfl
               rotate_left
               · simp only [Act.put, zs1, zs2, zs3, i64_w, i32_w]; rfl
               refine take_ (i := 8) (N := some 28) (v := ?_) (a' := ?_) #[true, true, true, true, true, true, true, true, true, true, true, false, false, false, false, false, false, false] rfl rfl (take_ofW HT_.out HW_.out (by kernel_rfl)) (fun _ _ _ h => h) (Or.inl ⟨by rfl, ?_⟩) hHeld ?_ ?_; rotate_left
               · rintro w' ⟨s0, zs1, zs2, zs3, s4, s5, s6⟩; go_simp
                 with_reducible rfl
               rotate_left
               · simp only [Act.put, zs1, zs2, zs3, i64_w, i32_w]; rfl
               refine pure_ (i := 11) (N := some 31) (v := ?_) (a' := ?_) #[true, true, true, true, true, true, true, true, true, true, true, true, false, false, false, false, false, false] rfl rfl (any_of HT_.out (by kernel_rfl)) (fun _ _ _ h => h) (Or.inl ⟨by rfl, ?_⟩) ?_ ?_; rotate_left
               · intro w'; go_simp
                 with_reducible rfl
               rotate_left
               · simp only [Act.put, zs1, zs2, zs3, i64_w, i32_w]; rfl
               refine take_ (i := 12) (N := some 32) (v := ?_) (a' := ?_) #[true, true, true, true, true, true, true, true, true, true, true, true, true, false, false, false, false, false] rfl rfl (take_ofW HT_.out HW_.out (by kernel_rfl)) (fun _ _ _ h => h) (Or.inl ⟨by rfl, ?_⟩) hHeld ?_ ?_; rotate_left
               · rintro w' ⟨s0, zs1, zs2, zs3, s4, s5, s6⟩; go_simp
                 with_reducible rfl
               rotate_left
               · simp only [Act.put, zs1, zs2, zs3, i64_w, i32_w]; rfl
               refine pure_ (i := 13) (N := some 33) (v := ?_) (a' := ?_) #[true, true, true, true, true, true, true, true, true, true, true, true, true, true, false, false, false, false] rfl rfl (any_of HT_.out (by kernel_rfl)) (fun _ _ _ h => h) (Or.inl ⟨by rfl, ?_⟩) ?_ ?_; rotate_left
               · intro w'; go_simp
                 with_reducible rfl
               rotate_left
               · simp only [Act.put, zs1, zs2, zs3, i64_w, i32_w]; rfl
               refine one_ (i := 14) (N := some 34) #[true, true, true, true, true, true, true, true, true, true, true, true, true, true, true, false, false, false] rfl rfl (one_of HT_.out (by kernel_rfl)) (by decide) (fun K hK => ?_); refine value_ (w1 := ?_) (v := ?_) (by rfl) rfl ?_ ?_; rotate_left 2
               · go_simp
                 constructor
                 · rfl
                 · rfl
               refine hK.out _ _ ⟨(blk_cell (blk_alloc BK177.out _) 0).trans rfl, (blk_cell (blk_alloc BK177.out _) 1).trans rfl, (blk_cell (blk_alloc BK177.out _) 2).trans rfl, (blk_cell (blk_alloc BK174.out _) 0).trans rfl, (blk_cell (blk_alloc BK174.out _) 1).trans rfl, (World.cell?_alloc_lt _ _ _ (World.block_lt_of_cell? _ _ (((HB.out.cell (World.block_lt_of_cell? w _ hw178_0)).trans hw178_0)))).trans (((HB.out.cell (World.block_lt_of_cell? w _ hw178_0)).trans hw178_0)), (World.cell?_alloc_lt _ _ _ (World.block_lt_of_cell? _ _ (((HB.out.cell (World.block_lt_of_cell? w _ hw179_0)).trans hw179_0)))).trans (((HB.out.cell (World.block_lt_of_cell? w _ hw179_0)).trans hw179_0))⟩ (fun hHeld => ?_); clear hK K; refine norm_ (a' := ?_) ?_ ?_; rotate_left
               · show Act.put _ (some 34) _ = _; simp only [Act.put, zs1, zs2, zs3, i64_w, i32_w]; rfl
               refine one_ (i := 15) (N := some 35) #[true, true, true, true, true, true, true, true, true, true, true, true, true, true, true, true, false, false] rfl rfl (one_of HT_.out (by kernel_rfl)) (by decide) (fun K hK => ?_); refine Kd.R_append_step (Kd.int .i64) (w0 := w) w.heap.size (by rfl) (.tmp 21) (.tmp 34) 22 3 (.int .i64 0) 8 rfl Try.underlying22 info3 rfl (by decide) (by omega) u178002 x178002_1 (wrap64 ((rd l0_1 x5_1) - (rd l0_1 (ji12)))) [.int .i64 (wrap64 ((rd l0_1 x5_1) - (rd l0_1 (ji12))))] (fun _ => True) (fun _ => False) rfl rfl ?aP (fun _ hk => hk.elim) ?aF ?aO ?aB ?aS ?aL ?_; (case aP => exact rfl); (case aB => exact (nC HB)); (case aF => exact (fun _ _ => trivial)); (case aO => exact (nR HO_178002)); (case aS => exact (below_size (nC HB))); (case aL => have := LMc15.out; omega); intro v181 w20 ho hb hg hat; rw [← Ny180.out] at ho; replace BK174 := Aside0.mk (blk_grown (g := gb174) (o := .cells #[.int .i64 a0_0, .slice (some ad176) l0_1.length c0_1] 78 (0, 0)) (nK BK174) hg (Kd.R_ne HO_178002.out BK174.out (by decide))); replace BK175 := Aside0.mk (blk_grown (g := gb175) (o := .cells #[.int .i64 0, .int .i64 0, .slice none 0 0] 24 (0, 0)) (nK BK175) hg (Kd.R_ne HO_178002.out BK175.out (by decide))); replace BK177 := Aside0.mk (blk_grown (g := gb177) (o := .cells #[.int .i64 a0_0, .int .i64 (rd l0_1 0), u178002] 24 (0, 0)) (nK BK177) hg (Kd.R_ne HO_178002.out BK177.out (by decide))); replace HB := Aside0.mk (hb); have HO182 := Aside0.mk (ho); clear HO_178002; clear ho hb hg hat; obtain ⟨Ao21, co21, eo21⟩ := Kd.R_slice HO182.out; (first | subst eo21 | (injection eo21 with f1_ f2_ f3_; have f4_ := f1_.symm; have f5_ := f3_.symm; clear f1_ f2_ f3_; subst f4_; subst f5_)); refine hK.out _ _ ⟨(blk_cell BK177.out 0).trans rfl, (blk_cell BK177.out 1).trans rfl, (blk_cell BK177.out 2).trans rfl, (blk_cell BK174.out 0).trans rfl, (blk_cell BK174.out 1).trans rfl, ((HB.out.cell (World.block_lt_of_cell? w _ hw178_0)).trans hw178_0), ((HB.out.cell (World.block_lt_of_cell? w _ hw179_0)).trans hw179_0)⟩ (fun hHeld => ?_); clear hK K; refine norm_ (a' := ?_) ?_ ?_; rotate_left
               · show Act.put _ (some 35) _ = _; simp only [Act.put, zs1, zs2, zs3, i64_w, i32_w]; rfl
               refine pure_ (i := 16) (N := some 36) (v := ?_) (a' := ?_) #[true, true, true, true, true, true, true, true, true, true, true, true, true, true, true, true, true, false] rfl rfl (any_of HT_.out (by kernel_rfl)) (fun _ _ _ h => h) (Or.inl ⟨by rfl, ?_⟩) ?_ ?_; rotate_left
               · intro w'; go_simp
                 with_reducible rfl
               rotate_left
               · simp only [Act.put, zs1, zs2, zs3, i64_w, i32_w]; rfl
               refine last_ (i := 17) (N := none) #[true, true, true, true, true, true, true, true, true, true, true, true, true, true, true, true, true, true] rfl rfl (one_of HT_.out (by kernel_rfl)) (by decide) (fun K hK => ?_); have hs22 : w20.cell? ⟨gb177, 2, none⟩ = some (u178002) := (blk_cell BK177.out 2).trans rfl; have hfs22 := blk_frozen BK177.out 2; have hns22_0 := NB174_177.out; have hns22_1 := NB175_177.out; have hms22_0 := NB177_174.out; have hms22_1 := NB177_175.out; refine skip_ (w1 := ?_) (by rfl) rfl ?_ ?_; rotate_left
               · go_simp
                 rfl
               refine hK.out _ _ ?_; clear hK K; refine done_ (done_of HT_.out (by kernel_rfl)) ?_; try go_wp2
               go_roundg k1
               case measure => have := HK1.out; omega
               case rel => exact ⟨(wrap64 (x5_1 + 1)), (y180), (.slice Ao21 y180.length co21), (by first | rfl | (simp; done) | (simp [*]; done)), H', ⟨by have := HK1.out; omega⟩, ⟨by (with_reducible repeat (first | apply Kd.R_alloc | apply Kd.R_drewN | apply Kd.R_drew)); exact Kd.R_mono (Kd.R_far (p := ⟨gb177, 2, none⟩) (Kd.R_types HO182.out BK177.out (by decide)) (fun _ hk => hk.2) (.slice Ao21 y180.length co21)) (fun _ hk => trivial)⟩, ⟨by (with_reducible repeat (first | refine blk_drewN ?_ _ | refine blk_drew ?_ | refine blk_alloc ?_ _)); refine blk_far ?_ NB174_177.out _; (with_reducible repeat (first | refine blk_drewN ?_ _ | refine blk_drew ?_ | refine blk_alloc ?_ _)); exact BK174.out⟩, ⟨by (with_reducible repeat (first | refine blk_drewN ?_ _ | refine blk_drew ?_ | refine blk_alloc ?_ _)); refine blk_far ?_ NB175_177.out _; (with_reducible repeat (first | refine blk_drewN ?_ _ | refine blk_drew ?_ | refine blk_alloc ?_ _)); exact BK175.out⟩, ⟨by (with_reducible repeat (first | refine blk_drewN ?_ _ | refine blk_drew ?_ | refine blk_alloc ?_ _)); refine blk_put (cs := #[.int .i64 a0_0, .int .i64 (rd l0_1 0), u178002]) ?_ 2 _ rfl; (with_reducible repeat (first | refine blk_drewN ?_ _ | refine blk_drew ?_ | refine blk_alloc ?_ _)); exact BK177.out⟩, ⟨nC HB⟩⟩
             · rw [if_neg c15] at H; exact absurd H (by simp)
           · rw [if_neg c14] at H; exact absurd H (by simp)
         · rw [if_neg c13] at H; exact absurd H (by simp)
       · rw [if_neg c11] at H; exact absurd H (by simp)
     · rw [if_neg c10] at H; have c10b0 : decide (x5_1 < (l0_1.length : Int)) = false := decide_eq_false c10; clear c10; replace H := Option.bind_eq_some_iff.mp H; obtain ⟨t183, A230, H⟩ := H; replace H : (some (a0_0, (rd l0_1 0), x178002_1, t183)) = some (r1, r2, r3, r4) := H; have A23 := Aside0.mk A230; clear A230; simp only [Option.some.injEq, Prod.mk.injEq] at H; obtain ⟨rfl, rfl, rfl, rfl⟩ := H; have hnb24 := NB174_175.out; have hnc24 := NB175_174.out; have hnb25 := NB174_177.out; have hnc25 := NB177_174.out; obtain ⟨hcz26_0, hcz26_1, hfz26_0, hfz26_1⟩ := cz2 BK174; try go_wp2
       replace HO_178002 := Aside0.mk (Kd.R_drew HO_178002.out); replace BK174 := Aside0.mk (blk_drew BK174.out); replace BK175 := Aside0.mk (blk_drew BK175.out); replace BK177 := Aside0.mk (blk_drew BK177.out); replace HB := Aside0.mk (below_drew1 HB.out); obtain ⟨Ao28, co28, eo28⟩ := Kd.R_slice HO_178002.out; (first | subst eo28 | (injection eo28 with f1_ f2_ f3_; have f4_ := f1_.symm; have f5_ := f3_.symm; clear f1_ f2_ f3_; subst f4_; subst f5_)); refine start_ (n := 5) (S := fun w' => w'.cell? ⟨gb177, 0, none⟩ = some (.int .i64 a0_0) ∧ w'.cell? ⟨gb177, 1, none⟩ = some (.int .i64 (rd l0_1 0)) ∧ w'.cell? ⟨gb177, 2, none⟩ = some (.slice Ao28 x178002_1.length co28)) (ds := []) #[false, false, false, false, false] (by kernel_rfl) rfl rfl ⟨(blk_cell BK177.out 0).trans rfl, (blk_cell BK177.out 1).trans rfl, (blk_cell BK177.out 2).trans rfl⟩ (fun hHeld => ?_); generalize wr.drew = w27 at HO_178002 BK174 BK175 BK177 HB hHeld ⊢; refine take_ (i := 0) (N := some 37) (v := ?_) (a' := ?_) #[true, false, false, false, false] rfl rfl (by kernel_rfl) (fun _ _ _ h => h) (Or.inl ⟨by rfl, ?_⟩) hHeld ?_ ?_; rotate_left
       · rintro w' ⟨s0, s1, s2⟩; go_simp
         with_reducible rfl
       rotate_left
       · simp only [Act.put, zs1, zs2, zs3, i64_w, i32_w]; rfl
       refine take_ (i := 1) (N := some 38) (v := ?_) (a' := ?_) #[true, true, false, false, false] rfl rfl (by kernel_rfl) (fun _ _ _ h => h) (Or.inl ⟨by rfl, ?_⟩) hHeld ?_ ?_; rotate_left
       · rintro w' ⟨s0, s1, s2⟩; go_simp
         with_reducible rfl
       rotate_left
       · simp only [Act.put, zs1, zs2, zs3, i64_w, i32_w]; rfl
       refine one_ (i := 2) (N := some 39) #[true, true, true, false, false] rfl rfl (by kernel_rfl) (by decide) (fun K hK => ?_); refine gO Try.func30 #[.agg #[.int .i64 a0_0, .int .i64 (rd l0_1 0), .slice Ao28 x178002_1.length co28]] ?_
       with_reducible refine (kimberliteref03_Valid.calls k1 a0_0 (rd l0_1 0) _ _ x178002_1 t183 _ ?side1 ?side2 A23.out).mono ?_
       (case side1 => repeat (first | exact (Kd.R_reads' HO_178002.out).2.2 | (with_reducible refine Kd.C_alloc ?_ _) | (with_reducible refine Kd.C_drewN ?_ _) | (with_reducible refine Kd.C_drew ?_))); (case side2 => exact (Kd.R_reads' HO_178002.out).2.1); rintro e w29 ⟨rfl, hb⟩; refine ⟨_, rfl, ?_⟩; replace HO_178002 := Aside0.mk (Kd.R_below (nR HO_178002) hb); replace BK174 := Aside0.mk (nB BK174 hb); replace BK175 := Aside0.mk (nB BK175 hb); replace BK177 := Aside0.mk (nB BK177 hb); replace HB := Aside0.mk (below_step (nC HB) hb); (try clear hb); (try clear hb2); (try clear hk); (try clear hi); refine hK.out _ _ ⟨(blk_cell BK177.out 0).trans rfl, (blk_cell BK177.out 1).trans rfl, (blk_cell BK177.out 2).trans rfl⟩ (fun hHeld => ?_); clear hK K; refine norm_ (a' := ?_) ?_ ?_; rotate_left
       · show Act.put _ (some 39) _ = _; simp only [Act.put, zs1, zs2, zs3, i64_w, i32_w]; rfl
       refine one_ (i := 3) (N := none) #[true, true, true, true, false] rfl rfl (by kernel_rfl) (by decide) (fun K hK => ?_); have hs30 : w29.cell? ⟨gb175, 0, none⟩ = some (.int .i64 0) := (blk_cell BK175.out 0).trans rfl; have hfs30 := blk_frozen BK175.out 0; have hns30_0 := NB174_175.out; have hns30_2 := NB177_175.out; have hms30_0 := NB175_174.out; have hms30_2 := NB175_177.out; have hs31 : w29.cell? ⟨gb175, 1, none⟩ = some (.int .i64 0) := (blk_cell BK175.out 1).trans rfl; have hfs31 := blk_frozen BK175.out 1; have hns31_0 := NB174_175.out; have hns31_2 := NB177_175.out; have hms31_0 := NB175_174.out; have hms31_2 := NB175_177.out; have hs32 : w29.cell? ⟨gb175, 2, none⟩ = some (.slice none 0 0) := (blk_cell BK175.out 2).trans rfl; have hfs32 := blk_frozen BK175.out 2; have hns32_0 := NB174_175.out; have hns32_2 := NB177_175.out; have hms32_0 := NB175_174.out; have hms32_2 := NB175_177.out; refine skip_ (w1 := ?_) (by rfl) rfl ?_ ?_; rotate_left
       · go_simp
         rfl
       refine hK.out _ _ ⟨((cell_far (p := ⟨gb175, _, none⟩) NB177_175.out _).trans (((cell_far (p := ⟨gb175, _, none⟩) NB177_175.out _).trans (((cell_far (p := ⟨gb175, _, none⟩) NB177_175.out _).trans (hHeld.1)))))), ((cell_far (p := ⟨gb175, _, none⟩) NB177_175.out _).trans (((cell_far (p := ⟨gb175, _, none⟩) NB177_175.out _).trans (((cell_far (p := ⟨gb175, _, none⟩) NB177_175.out _).trans (hHeld.2.1)))))), ((cell_far (p := ⟨gb175, _, none⟩) NB177_175.out _).trans (((cell_far (p := ⟨gb175, _, none⟩) NB177_175.out _).trans (((cell_far (p := ⟨gb175, _, none⟩) NB177_175.out _).trans (hHeld.2.2))))))⟩ (fun hHeld => ?_); clear hK K; refine pure_ (i := 4) (N := some 3) (v := ?_) (a' := ?_) #[true, true, true, true, true] rfl rfl (by kernel_rfl) (fun _ _ _ h => h) (Or.inl ⟨by rfl, ?_⟩) ?_ ?_; rotate_left
       · intro w'; go_simp
         with_reducible rfl
       rotate_left
       · simp only [Act.put, zs1, zs2, zs3, i64_w, i32_w]; rfl
       refine done_ (by kernel_rfl) ?_; try go_wp2
       refine bodyPost_ret (results_ct rfl _ _ gb175 24 #[.int .i64 a0_0, .int .i64 (rd l0_1 0), .slice Ao28 x178002_1.length co28] (0, 0) _ rfl (by (with_reducible repeat (first | refine blk_drewN ?_ _ | refine blk_drew ?_ | refine blk_alloc ?_ _)); refine blk_put (cs := #[.int .i64 a0_0, .int .i64 (rd l0_1 0), .slice none 0 0]) ?_ 2 _ rfl; (with_reducible repeat (first | refine blk_drewN ?_ _ | refine blk_drew ?_ | refine blk_alloc ?_ _)); refine blk_put (cs := #[.int .i64 a0_0, .int .i64 0, .slice none 0 0]) ?_ 1 _ rfl; (with_reducible repeat (first | refine blk_drewN ?_ _ | refine blk_drew ?_ | refine blk_alloc ?_ _)); refine blk_put (cs := #[.int .i64 0, .int .i64 0, .slice none 0 0]) ?_ 0 _ rfl; (with_reducible repeat (first | refine blk_drewN ?_ _ | refine blk_drew ?_ | refine blk_alloc ?_ _)); exact BK175.out) Try.underlying24 rfl (by kernel_rfl)) rfl ?_; exact ⟨_, by first | rfl | (simp [errW_none, errW_some] <;> rfl) | (simp [*, errW_none, errW_some] <;> rfl), by (with_reducible repeat (first | apply Kd.R_alloc | apply Kd.R_drewN | apply Kd.R_drew)); exact Kd.R_mono (Kd.R_far (p := ⟨gb175, 2, none⟩) (Kd.R_far (p := ⟨gb175, 1, none⟩) (Kd.R_far (p := ⟨gb175, 0, none⟩) (Kd.R_types HO_178002.out BK175.out (by decide)) (fun _ hk => hk.2) (.int .i64 a0_0)) (fun _ hk => hk.2) (.int .i64 (rd l0_1 0))) (fun _ hk => hk.2) (.slice Ao28 x178002_1.length co28)) (fun _ hk => trivial), nC HB⟩
 · rw [if_neg c2] at H; exact absurd H (by simp)
end Go.Proofs.Ytingjpcgehgiiaa.Pr
end
section
namespace Go.Proofs.Ytingjpcgehgiiaa.Pr
open Go.RowKit Go.Proofs.YtingjpcgehgiiaaW.PrintWords Go.Proofs.YtingjpcgehgiiaaW.PrintLast Go.Proofs.YtingjpcgehgiiaaW.PrintMore
attribute [local go_sem] max2_int min2_int max_two min_two max_three min_three max_four min_four   -- for this text's walks alone
set_option linter.unusedVariables false
set_option linter.unusedSimpArgs false
def kimberliteref03_ranged.f (k : Nat) (a0_0 : Int) (l0_1 : List Int) : Option (Int × Int × List Int × Int) := (kimberliteref03_In.f k a0_0 l0_1).bind fun bt186 => (if bt186.2.2.2 = true then (some (bt186.1, bt186.2.1, bt186.2.2.1, 0)) else (some (0, 0, ([] : List Int), 4)))
theorem kimberliteref03_ranged.mono : ∀ a0 a1 k, LeO (kimberliteref03_ranged.f k a0 a1) (kimberliteref03_ranged.f (k + 1) a0 a1) := by
 intro a0 a1 k; unfold kimberliteref03_ranged.f
 repeat' first
  | (with_reducible exact kimberliteref03_In.mono _ _ _)
  | (with_reducible exact LeO.refl _)
  | (with_reducible exact LeO.none _)
  | (with_reducible refine LeO.ite ?_ ?_)
  | (with_reducible refine LeO.bind ?_ (fun _ => ?_))
  | exact kimberliteref03_In.mono _ _ _
  | exact LeO.none _
  | refine LeO.ite ?_ ?_
  | refine LeO.bind ?_ (fun _ => ?_)
set_option maxHeartbeats 8000000 in
set_option maxRecDepth 100000 in
theorem kimberliteref03_ranged.calls (k : Nat) (a0_0 : Int) (A0_1 : Option Addr) (c0_1 : Nat) (l0_1 : List Int) (r1 : Int) (r2 : Int) (r3 : List Int) (r4 : Int) (w : World) (hr0_1 : Kd.C (Kd.int .i64) w A0_1 l0_1.length l0_1) (hc0_1 : l0_1.length ≤ c0_1) (h : kimberliteref03_ranged.f k a0_0 l0_1 = some (r1, r2, r3, r4)) :
 Calls Try.prog 72 #[.agg #[.int .i64 a0_0, .slice A0_1 l0_1.length c0_1]] w fun e w' => ∃ v2_ : Value, e = .returned (.tuple #[.agg #[.int .i64 r1, .int .i64 r2, v2_], .int .i64 r4]) ∧ Kd.R (Kd.int .i64) 3 w' w.heap.size (fun _ => True) v2_ r3 ∧ Below w.heap.size w w' := by
 have hu78 := Try.underlying78; have hu24 := Try.underlying24; have HR0_1 := Aside0.mk hr0_1; have HC0_1 := Aside0.mk hc0_1; clear hr0_1 hc0_1; have HB := Aside0.mk (Below.refl w.heap.size w); have H : ((kimberliteref03_In.f k a0_0 l0_1).bind fun bt186 => (if bt186.2.2.2 = true then (some (bt186.1, bt186.2.1, bt186.2.2.1, 0)) else (some (0, 0, ([] : List Int), 4)))) = some (r1, r2, r3, r4) := h; clear h; replace H := Option.bind_eq_some_iff.mp H; obtain ⟨⟨t186, t187, t188, t191⟩, A20, H⟩ := H; replace H : (if t191 = true then (some (t186, t187, t188, 0)) else (some (0, 0, ([] : List Int), 4))) = some (r1, r2, r3, r4) := H; have A2 := Aside0.mk A20; clear A20
 by_cases c3 : t191 = true
 · subst c3; replace H : (some (t186, t187, t188, 0)) = some (r1, r2, r3, r4) := by rw [if_pos rfl] at H; exact H
   simp only [Option.some.injEq, Prod.mk.injEq] at H; obtain ⟨rfl, rfl, rfl, rfl⟩ := H; go_enter Try.func72, Try.ntmps72
   go_wp2_with (first | ((with_reducible refine gate_dst (N := 1) rfl ?_); refine box_event ?hg (N := 1) ?hd (cs := #[.int .i64 a0_0, .slice A0_1 l0_1.length c0_1]) (t := 78) ?hr ?_; (case hd => rfl); (case hg => rfl); (case hr => first | (go_simp; done) | (go_simp; rfl)); intro gb184 hg w4 hbox hb; have BK184 := Aside0.mk (hbox); have GW184 := Aside0.mk ((by rw [hg]; exact (below_size (nC HB)) : w.heap.size ≤ gb184)); have GE184 := Aside0.mk ((by rw [hg]; exact (below_size (nC HB)) : w.heap.size ≤ gb184)); replace HB := Aside0.mk (below_step (nC HB) hb); clear hb hbox hg) | ((with_reducible refine gate_dst (N := 2) rfl ?_); refine box_event ?hg (N := 2) ?hd (cs := #[.int .i64 0, .int .i64 0, .slice none 0 0]) (t := 24) ?hr ?_; (case hd => rfl); (case hg => rfl); (case hr => first | (go_simp; done) | (go_simp; rfl)); intro gb185 hg w5 hbox hb; have BK185 := Aside0.mk (hbox); have GW185 := Aside0.mk ((by rw [hg]; exact (below_size (nC HB)) : w.heap.size ≤ gb185)); have GE185 := Aside0.mk ((by rw [hg]; exact (below_size (nC HB)) : w.heap.size ≤ gb185)); replace HB := Aside0.mk (below_step (nC HB) hb); have NB184_185 := Aside0.mk ((by rw [hg]; exact Nat.ne_of_lt (blk_lt (nK BK184)) : gb184 ≠ gb185)); have NB185_184 := Aside0.mk ((by rw [hg]; exact Nat.ne_of_gt (blk_lt (nK BK184)) : gb185 ≠ gb184)); replace BK184 := Aside0.mk (nB BK184 hb); clear hb hbox hg; have hnb6 := NB184_185.out; have hnc6 := NB185_184.out; obtain ⟨hcz7_0, hcz7_1, hfz7_0, hfz7_1⟩ := cz2 BK184) | ((with_reducible refine gate_callee (f := 85) rfl ?_); refine gL (some 8) Try.func85 #[.agg #[.int .i64 a0_0, .slice A0_1 l0_1.length c0_1]] ?_; (with_reducible refine (kimberliteref03_In.calls k a0_0 _ _ l0_1 t186 t187 t188 true _ ?side1 ?side2 A2.out).mono ?_); (case side1 => exact nS HR0_1 HB); (case side2 => exact HC0_1.out); rintro e w8 ⟨v189, rfl, ho0, hb⟩; refine ⟨_, rfl, ?_⟩; have HO190 := Aside0.mk (Kd.R_lower ho0 (below_size (nC HB))); replace BK184 := Aside0.mk (nB BK184 hb); replace BK185 := Aside0.mk (nB BK185 hb); replace HB := Aside0.mk (below_step (nC HB) hb); (try clear hb); (try clear hb2); (try clear hk); (try clear hi); (try clear ho0)) | ((with_reducible refine gate_dst (N := 4) rfl ?_); refine box_event ?hg (N := 4) ?hd (cs := #[.int .i64 0, .int .i64 0, .slice none 0 0]) (t := 24) ?hr ?_; (case hd => rfl); (case hg => rfl); (case hr => first | (go_simp; done) | (go_simp; rfl)); intro gb192 hg w9 hbox hb; replace HO190 := Aside0.mk (Kd.R_below (nR HO190) hb); have BK192 := Aside0.mk (hbox); have GW192 := Aside0.mk ((by rw [hg]; exact (below_size (nC HB)) : w.heap.size ≤ gb192)); have GE192 := Aside0.mk ((by rw [hg]; exact (below_size (nC HB)) : w.heap.size ≤ gb192)); replace HB := Aside0.mk (below_step (nC HB) hb); have NB184_192 := Aside0.mk ((by rw [hg]; exact Nat.ne_of_lt (blk_lt (nK BK184)) : gb184 ≠ gb192)); have NB192_184 := Aside0.mk ((by rw [hg]; exact Nat.ne_of_gt (blk_lt (nK BK184)) : gb192 ≠ gb184)); replace BK184 := Aside0.mk (nB BK184 hb); have NB185_192 := Aside0.mk ((by rw [hg]; exact Nat.ne_of_lt (blk_lt (nK BK185)) : gb185 ≠ gb192)); have NB192_185 := Aside0.mk ((by rw [hg]; exact Nat.ne_of_gt (blk_lt (nK BK185)) : gb192 ≠ gb185)); replace BK185 := Aside0.mk (nB BK185 hb); clear hb hbox hg; have hnb10 := NB192_184.out; have hnc10 := NB184_192.out; have hnb11 := NB192_185.out; have hnc11 := NB185_192.out; obtain ⟨hcz12_0, hcz12_1, hcz12_2, hfz12_0, hfz12_1, hfz12_2⟩ := cz3 BK192; obtain ⟨Ao13, co13, eo13⟩ := Kd.R_slice HO190.out; subst eo13; obtain ⟨hcz14_0, hcz14_1, hcz14_2, hfz14_0, hfz14_1, hfz14_2⟩ := cz3 BK185))
   refine bodyPost_ret (results_ct rfl _ _ gb185 24 #[.int .i64 t186, .int .i64 t187, .slice Ao13 t188.length co13] (0, 0) _ rfl (by (with_reducible repeat (first | refine blk_drewN ?_ _ | refine blk_drew ?_ | refine blk_alloc ?_ _)); refine blk_put (cs := #[.int .i64 t186, .int .i64 t187, .slice none 0 0]) ?_ 2 _ rfl; (with_reducible repeat (first | refine blk_drewN ?_ _ | refine blk_drew ?_ | refine blk_alloc ?_ _)); refine blk_put (cs := #[.int .i64 t186, .int .i64 0, .slice none 0 0]) ?_ 1 _ rfl; (with_reducible repeat (first | refine blk_drewN ?_ _ | refine blk_drew ?_ | refine blk_alloc ?_ _)); refine blk_put (cs := #[.int .i64 0, .int .i64 0, .slice none 0 0]) ?_ 0 _ rfl; (with_reducible repeat (first | refine blk_drewN ?_ _ | refine blk_drew ?_ | refine blk_alloc ?_ _)); refine blk_far ?_ NB185_192.out _; (with_reducible repeat (first | refine blk_drewN ?_ _ | refine blk_drew ?_ | refine blk_alloc ?_ _)); refine blk_far ?_ NB185_192.out _; (with_reducible repeat (first | refine blk_drewN ?_ _ | refine blk_drew ?_ | refine blk_alloc ?_ _)); refine blk_far ?_ NB185_192.out _; (with_reducible repeat (first | refine blk_drewN ?_ _ | refine blk_drew ?_ | refine blk_alloc ?_ _)); exact BK185.out) Try.underlying24 rfl (by kernel_rfl)) rfl ?_; exact ⟨_, by first | rfl | (simp [errW_none, errW_some] <;> rfl) | (simp [*, errW_none, errW_some] <;> rfl), by (with_reducible repeat (first | apply Kd.R_alloc | apply Kd.R_drewN | apply Kd.R_drew)); exact Kd.R_mono (Kd.R_far (p := ⟨gb185, 2, none⟩) (Kd.R_far (p := ⟨gb185, 1, none⟩) (Kd.R_far (p := ⟨gb185, 0, none⟩) (Kd.R_far (p := ⟨gb192, 2, none⟩) (Kd.R_far (p := ⟨gb192, 1, none⟩) (Kd.R_far (p := ⟨gb192, 0, none⟩) (Kd.R_types (Kd.R_types HO190.out BK192.out (by decide)) BK185.out (by decide)) (fun _ hk => hk.1.2) (.int .i64 t186)) (fun _ hk => hk.1.2) (.int .i64 t187)) (fun _ hk => hk.1.2) (.slice Ao13 t188.length co13)) (fun _ hk => hk.2) (.int .i64 t186)) (fun _ hk => hk.2) (.int .i64 t187)) (fun _ hk => hk.2) (.slice Ao13 t188.length co13)) (fun _ hk => trivial), nC HB⟩
 · replace c3 := Bool.eq_false_iff.mpr c3; subst c3; replace H : (some (0, 0, ([] : List Int), 4)) = some (r1, r2, r3, r4) := by rw [if_neg (show ¬ (false = true) by decide)] at H; exact H
   simp only [Option.some.injEq, Prod.mk.injEq] at H; obtain ⟨rfl, rfl, rfl, rfl⟩ := H; go_enter Try.func72, Try.ntmps72
   go_wp2_with (first | ((with_reducible refine gate_dst (N := 1) rfl ?_); refine box_event ?hg (N := 1) ?hd (cs := #[.int .i64 a0_0, .slice A0_1 l0_1.length c0_1]) (t := 78) ?hr ?_; (case hd => rfl); (case hg => rfl); (case hr => first | (go_simp; done) | (go_simp; rfl)); intro gb184 hg w15 hbox hb; have BK184 := Aside0.mk (hbox); have GW184 := Aside0.mk ((by rw [hg]; exact (below_size (nC HB)) : w.heap.size ≤ gb184)); have GE184 := Aside0.mk ((by rw [hg]; exact (below_size (nC HB)) : w.heap.size ≤ gb184)); replace HB := Aside0.mk (below_step (nC HB) hb); clear hb hbox hg) | ((with_reducible refine gate_dst (N := 2) rfl ?_); refine box_event ?hg (N := 2) ?hd (cs := #[.int .i64 0, .int .i64 0, .slice none 0 0]) (t := 24) ?hr ?_; (case hd => rfl); (case hg => rfl); (case hr => first | (go_simp; done) | (go_simp; rfl)); intro gb185 hg w16 hbox hb; have BK185 := Aside0.mk (hbox); have GW185 := Aside0.mk ((by rw [hg]; exact (below_size (nC HB)) : w.heap.size ≤ gb185)); have GE185 := Aside0.mk ((by rw [hg]; exact (below_size (nC HB)) : w.heap.size ≤ gb185)); replace HB := Aside0.mk (below_step (nC HB) hb); have NB184_185 := Aside0.mk ((by rw [hg]; exact Nat.ne_of_lt (blk_lt (nK BK184)) : gb184 ≠ gb185)); have NB185_184 := Aside0.mk ((by rw [hg]; exact Nat.ne_of_gt (blk_lt (nK BK184)) : gb185 ≠ gb184)); replace BK184 := Aside0.mk (nB BK184 hb); clear hb hbox hg; have hnb17 := NB184_185.out; have hnc17 := NB185_184.out; obtain ⟨hcz18_0, hcz18_1, hfz18_0, hfz18_1⟩ := cz2 BK184) | ((with_reducible refine gate_callee (f := 85) rfl ?_); refine gL (some 8) Try.func85 #[.agg #[.int .i64 a0_0, .slice A0_1 l0_1.length c0_1]] ?_; (with_reducible refine (kimberliteref03_In.calls k a0_0 _ _ l0_1 t186 t187 t188 false _ ?side1 ?side2 A2.out).mono ?_); (case side1 => exact nS HR0_1 HB); (case side2 => exact HC0_1.out); rintro e w19 ⟨v189, rfl, ho0, hb⟩; refine ⟨_, rfl, ?_⟩; have HO190 := Aside0.mk (Kd.R_lower ho0 (below_size (nC HB))); replace BK184 := Aside0.mk (nB BK184 hb); replace BK185 := Aside0.mk (nB BK185 hb); replace HB := Aside0.mk (below_step (nC HB) hb); (try clear hb); (try clear hb2); (try clear hk); (try clear hi); (try clear ho0)) | ((with_reducible refine gate_dst (N := 4) rfl ?_); refine box_event ?hg (N := 4) ?hd (cs := #[.int .i64 0, .int .i64 0, .slice none 0 0]) (t := 24) ?hr ?_; (case hd => rfl); (case hg => rfl); (case hr => first | (go_simp; done) | (go_simp; rfl)); intro gb192 hg w20 hbox hb; replace HO190 := Aside0.mk (Kd.R_below (nR HO190) hb); have BK192 := Aside0.mk (hbox); have GW192 := Aside0.mk ((by rw [hg]; exact (below_size (nC HB)) : w.heap.size ≤ gb192)); have GE192 := Aside0.mk ((by rw [hg]; exact (below_size (nC HB)) : w.heap.size ≤ gb192)); replace HB := Aside0.mk (below_step (nC HB) hb); have NB184_192 := Aside0.mk ((by rw [hg]; exact Nat.ne_of_lt (blk_lt (nK BK184)) : gb184 ≠ gb192)); have NB192_184 := Aside0.mk ((by rw [hg]; exact Nat.ne_of_gt (blk_lt (nK BK184)) : gb192 ≠ gb184)); replace BK184 := Aside0.mk (nB BK184 hb); have NB185_192 := Aside0.mk ((by rw [hg]; exact Nat.ne_of_lt (blk_lt (nK BK185)) : gb185 ≠ gb192)); have NB192_185 := Aside0.mk ((by rw [hg]; exact Nat.ne_of_gt (blk_lt (nK BK185)) : gb192 ≠ gb185)); replace BK185 := Aside0.mk (nB BK185 hb); clear hb hbox hg; have hnb21 := NB192_184.out; have hnc21 := NB184_192.out; have hnb22 := NB192_185.out; have hnc22 := NB185_192.out; obtain ⟨hcz23_0, hcz23_1, hcz23_2, hfz23_0, hfz23_1, hfz23_2⟩ := cz3 BK192; obtain ⟨Ao24, co24, eo24⟩ := Kd.R_slice HO190.out; subst eo24; obtain ⟨hcz25_0, hcz25_1, hcz25_2, hfz25_0, hfz25_1, hfz25_2⟩ := cz3 BK185))
   refine bodyPost_ret (results_ct rfl _ _ gb185 24 #[.int .i64 0, .int .i64 0, .slice none 0 0] (0, 0) _ rfl (by (with_reducible repeat (first | refine blk_drewN ?_ _ | refine blk_drew ?_ | refine blk_alloc ?_ _)); refine blk_put (cs := #[.int .i64 0, .int .i64 0, .slice none 0 0]) ?_ 2 _ rfl; (with_reducible repeat (first | refine blk_drewN ?_ _ | refine blk_drew ?_ | refine blk_alloc ?_ _)); refine blk_put (cs := #[.int .i64 0, .int .i64 0, .slice none 0 0]) ?_ 1 _ rfl; (with_reducible repeat (first | refine blk_drewN ?_ _ | refine blk_drew ?_ | refine blk_alloc ?_ _)); refine blk_put (cs := #[.int .i64 0, .int .i64 0, .slice none 0 0]) ?_ 0 _ rfl; (with_reducible repeat (first | refine blk_drewN ?_ _ | refine blk_drew ?_ | refine blk_alloc ?_ _)); refine blk_far ?_ NB185_192.out _; (with_reducible repeat (first | refine blk_drewN ?_ _ | refine blk_drew ?_ | refine blk_alloc ?_ _)); refine blk_far ?_ NB185_192.out _; (with_reducible repeat (first | refine blk_drewN ?_ _ | refine blk_drew ?_ | refine blk_alloc ?_ _)); refine blk_far ?_ NB185_192.out _; (with_reducible repeat (first | refine blk_drewN ?_ _ | refine blk_drew ?_ | refine blk_alloc ?_ _)); exact BK185.out) Try.underlying24 rfl (by kernel_rfl)) rfl ?_; exact ⟨_, by first | rfl | (simp [errW_none, errW_some] <;> rfl) | (simp [*, errW_none, errW_some] <;> rfl), by first | exact Kd.R_nil _ _ _ _ _ | exact Kd.N_nil _ _ _ _ _ | exact Kd.V_nil _ _ _ _ _ | exact Kd.Q_nil _ _ _ _ _ | exact Kd.S_nil _ _ _ _ _, nC HB⟩
end Go.Proofs.Ytingjpcgehgiiaa.Pr
end
section
namespace Go.Proofs.Ytingjpcgehgiiaa.Pr
open Go.RowKit Go.Proofs.YtingjpcgehgiiaaW.PrintWords Go.Proofs.YtingjpcgehgiiaaW.PrintLast Go.Proofs.YtingjpcgehgiiaaW.PrintMore
set_option linter.unusedVariables false
set_option linter.unusedSimpArgs false
theorem sortedI_of {l : List Int} (h : ∀ j, j + 1 < l.length → rd l (j : Int) ≤ rd l ((j + 1 : Nat) : Int)) : sortedI l = true := by
  unfold sortedI
  rw [sortedTo_iff]
  exact fun j hj => h j (by omega)
theorem sortedI_at {l : List Int} (hs : sortedI l = true) {j : Nat} (hj : j + 1 < l.length) : rd l (j : Int) ≤ rd l ((j + 1 : Nat) : Int) := by
  unfold sortedI at hs
  exact (sortedTo_iff l _).1 hs j (by omega)
theorem vc_iff (c : S24) : Vc c ↔ (-1048576 ≤ c.f0 ∧ c.f0 ≤ 1048576 ∧ -1099511627776 ≤ c.f1 ∧ c.f1 ≤ 1099511627776 ∧ c.f2.length ≤ 64) ∧ (∀ j : Nat, j < c.f2.length → -1048576 ≤ rd c.f2 (j : Int) ∧ rd c.f2 (j : Int) ≤ 1048576) ∧ (∀ j : Nat, j + 1 < c.f2.length → rd c.f2 (j : Int) ≤ rd c.f2 ((j + 1 : Nat) : Int)) := by
  constructor
  · intro h
    obtain ⟨h1, h2, h3, h4, h5, h6, h7⟩ := vc_parts h
    exact ⟨⟨h1, h2, h3, h4, h5⟩, fun j hj => by rw [rd_nat _ _ hj]; exact h7 _ (List.getElem_mem hj), fun j hj => sortedI_at h6 hj⟩
  · rintro ⟨⟨h1, h2, h3, h4, h5⟩, h6, h7⟩
    unfold Vc validC inB
    simp only [Bool.and_eq_true, decide_eq_true_eq, Bool.not_eq_true', List.any_eq_false]
    refine ⟨⟨h1, h2⟩, ⟨h3, h4⟩, h5, sortedI_of h7, fun s hs => ?_⟩
    obtain ⟨j, hj, rfl⟩ := List.mem_iff_getElem.1 hs
    have := h6 j hj
    rw [rd_nat _ _ hj] at this
    simpa using this
theorem rv_next (k : Nat) (c : S24) {i : Nat} (hi : i < c.f2.length) (h64 : c.f2.length ≤ 64) (h1 : -1048576 ≤ rd c.f2 (i : Int)) (h2 : rd c.f2 (i : Int) ≤ 1048576) (h3 : ∀ j : Nat, j + 1 = i → rd c.f2 (j : Int) ≤ rd c.f2 (i : Int)) :
    kimberliteref03_Valid.l0 (k + 2) (i : Int) c.f0 c.f1 c.f2 = kimberliteref03_Valid.l0 k ((i + 1 : Nat) : Int) c.f0 c.f1 c.f2 := by
  have e2 := succ_w64 (i := i) (by omega)
  have q1 : (i : Int) < (c.f2.length : Int) := by omega
  have q2 : 0 ≤ (i : Int) := by omega
  have q3 : ¬rd c.f2 (i : Int) < -1048576 := by omega
  have q4 : ¬rd c.f2 (i : Int) > 1048576 := by omega
  simp only [kimberliteref03_Valid.l0]
  rw [if_pos q1, if_pos q2, if_neg q3, if_neg q4]
  by_cases h0 : i = 0
  · subst h0
    rw [if_neg (by simp)]
    simp only [kimberliteref03_Valid.j2]
    rw [if_neg (by simp), e2]
  · obtain ⟨j, rfl⟩ : ∃ j, i = j + 1 := ⟨i - 1, by omega⟩
    have e1 := pred_w64 (i := j) (by omega)
    have q5 : ((j + 1 : Nat) : Int) > 0 := by omega
    have q6 : 0 ≤ (j : Int) := by omega
    have q7 : (j : Int) < (c.f2.length : Int) := by omega
    have q8 : ¬rd c.f2 (j : Int) > rd c.f2 ((j + 1 : Nat) : Int) := by have := h3 j rfl; omega
    rw [if_pos q5, e1, if_pos q6, if_pos q7, decide_eq_false q8]
    simp only [kimberliteref03_Valid.j2]
    rw [if_neg (by simp), e2]
theorem rv_bad (k : Nat) (c : S24) {i : Nat} (hi : i < c.f2.length) (h64 : c.f2.length ≤ 64) (hb : rd c.f2 (i : Int) < -1048576 ∨ 1048576 < rd c.f2 (i : Int) ∨ ∃ j : Nat, j + 1 = i ∧ rd c.f2 (i : Int) < rd c.f2 (j : Int)) :
    kimberliteref03_Valid.l0 (k + 2) (i : Int) c.f0 c.f1 c.f2 = some false := by
  have q1 : (i : Int) < (c.f2.length : Int) := by clear hb; omega
  have q2 : 0 ≤ (i : Int) := by clear hb; omega
  simp only [kimberliteref03_Valid.l0]
  rw [if_pos q1, if_pos q2]
  by_cases h1 : rd c.f2 (i : Int) < -1048576
  · rw [if_pos h1]
    simp only [kimberliteref03_Valid.j2]
    rw [if_pos trivial]
  · rw [if_neg h1]
    by_cases h2 : rd c.f2 (i : Int) > 1048576
    · rw [if_pos h2]
      simp only [kimberliteref03_Valid.j2]
      rw [if_pos trivial]
    · rw [if_neg h2]
      obtain ⟨j, rfl, h3⟩ : ∃ j : Nat, j + 1 = i ∧ rd c.f2 (i : Int) < rd c.f2 (j : Int) := by
        rcases hb with h | h | h
        · exact absurd h h1
        · exact absurd h h2
        · exact h
      have e1 := pred_w64 (i := j) (by omega)
      have q5 : ((j + 1 : Nat) : Int) > 0 := by omega
      have q6 : 0 ≤ (j : Int) := by omega
      have q7 : (j : Int) < (c.f2.length : Int) := by omega
      rw [if_pos q5, e1, if_pos q6, if_pos q7, decide_eq_true h3]
      simp only [kimberliteref03_Valid.j2]
      rw [if_pos trivial]
theorem rv_loop {c : S24} (h0 : -1048576 ≤ c.f0 ∧ c.f0 ≤ 1048576 ∧ -1099511627776 ≤ c.f1 ∧ c.f1 ≤ 1099511627776 ∧ c.f2.length ≤ 64) : ∀ (n i : Nat), i + n = c.f2.length → (∀ j : Nat, j < i → -1048576 ≤ rd c.f2 (j : Int) ∧ rd c.f2 (j : Int) ≤ 1048576) → (∀ j : Nat, j + 1 < i → rd c.f2 (j : Int) ≤ rd c.f2 ((j + 1 : Nat) : Int)) →
    Ev (fun k => kimberliteref03_Valid.l0 k (i : Int) c.f0 c.f1 c.f2) (decide (Vc c))
  | 0, i, hi, h1, h2 => by
    have e : i = c.f2.length := by omega
    subst e
    rw [decide_eq_true ((vc_iff c).2 ⟨h0, h1, h2⟩)]
    refine Ev.step (f := fun _ => some true) (fun k => ?_) (Ev.now _)
    simp only [kimberliteref03_Valid.l0]
    rw [if_neg (by omega)]
  | n + 1, i, hi, h1, h2 => by
    have hl : i < c.f2.length := by omega
    by_cases hb : rd c.f2 (i : Int) < -1048576 ∨ 1048576 < rd c.f2 (i : Int) ∨ ∃ j : Nat, j + 1 = i ∧ rd c.f2 (i : Int) < rd c.f2 (j : Int)
    · have hn : ¬Vc c := fun h => by
        obtain ⟨_, h3, h4⟩ := (vc_iff c).1 h
        have a := h3 i hl
        rcases hb with hb | hb | ⟨j, rfl, hb⟩
        · omega
        · omega
        · have := h4 j hl; omega
      rw [decide_eq_false hn]
      exact Ev.two (f := fun _ => some false) (fun k => rv_bad k c hl h0.2.2.2.2 hb) (Ev.now _)
    · have b1 : -1048576 ≤ rd c.f2 (i : Int) := Int.not_lt.1 fun h => hb (.inl h)
      have b2 : rd c.f2 (i : Int) ≤ 1048576 := Int.not_lt.1 fun h => hb (.inr (.inl h))
      have b3 : ∀ j : Nat, j + 1 = i → rd c.f2 (j : Int) ≤ rd c.f2 (i : Int) := fun j hj => Int.not_lt.1 fun h => hb (.inr (.inr ⟨j, hj, h⟩))
      refine Ev.two (fun k => rv_next k c hl h0.2.2.2.2 b1 b2 b3) (rv_loop h0 n (i + 1) (by omega) (fun j hj => ?_) (fun j hj => ?_))
      · by_cases e : j = i
        · subst e; exact ⟨b1, b2⟩
        · exact h1 j (by omega)
      · by_cases e : j + 1 = i
        · have := b3 j e
          rw [e]
          exact this
        · exact h2 j (by omega)
theorem rvalid_ev (c : S24) : Ev (fun k => kimberliteref03_Valid.f k c.f0 c.f1 c.f2) (decide (Vc c)) := by
  have bad : ¬Vc c → Ev (fun k => kimberliteref03_Valid.j0 k true c.f0 c.f1 c.f2) (decide (Vc c)) := fun hn => by
    rw [decide_eq_false hn]
    exact Ev.step (f := fun _ => some false) (fun k => by simp only [kimberliteref03_Valid.j0]; rw [if_pos trivial]) (Ev.now _)
  unfold kimberliteref03_Valid.f
  by_cases h1 : c.f0 < -1048576
  · exact Ev.congr (fun k => if_pos h1) (bad fun h => by have := ((vc_iff c).1 h).1; omega)
  refine Ev.congr (fun k => if_neg h1) ?_
  by_cases h2 : c.f0 > 1048576
  · exact Ev.congr (fun k => if_pos h2) (bad fun h => by have := ((vc_iff c).1 h).1; omega)
  refine Ev.congr (fun k => if_neg h2) ?_
  by_cases h3 : c.f1 < -1099511627776
  · exact Ev.congr (fun k => if_pos h3) (bad fun h => by have := ((vc_iff c).1 h).1; omega)
  refine Ev.congr (fun k => if_neg h3) ?_
  by_cases h4 : c.f1 > 1099511627776
  · exact Ev.congr (fun k => if_pos h4) (bad fun h => by have := ((vc_iff c).1 h).1; omega)
  refine Ev.congr (fun k => if_neg h4) ?_
  by_cases h5 : (c.f2.length : Int) > 64
  · rw [decide_eq_true h5]
    exact bad fun h => by have := ((vc_iff c).1 h).1; omega
  · rw [decide_eq_false h5]
    have hl := rv_loop (c := c) ⟨by omega, by omega, by omega, by omega, by omega⟩ c.f2.length 0 (by omega) (fun j hj => by omega) (fun j hj => by omega)
    refine Ev.step (fun k => ?_) hl
    simp only [kimberliteref03_Valid.j0]
    rw [if_neg (by simp)]
    rfl
theorem own_loop (c : S24) (h : c.f2.length ≤ 35184372088832) : ∀ (n i : Nat) (x : List Int), i + n = c.f2.length → x.length = c.f2.length → (∀ j, j < i → x[j]? = c.f2[j]?) → Ev (fun k => kimberlitelaw03_own.l0 k x (i : Int) c.f0 c.f1 c.f2) (c.f0, c.f1, c.f2)
  | 0, i, x, hi, hx, hj => by
    have e : x = c.f2 := List.ext_getElem? fun j => by
      by_cases h1 : j < i
      · exact hj j h1
      · rw [List.getElem?_eq_none (by omega), List.getElem?_eq_none (by omega)]
    subst e
    refine Ev.step (f := fun _ => some (c.f0, c.f1, c.f2)) (fun k => ?_) (Ev.now _)
    simp only [kimberlitelaw03_own.l0]
    rw [if_neg (by omega)]
  | n + 1, i, x, hi, hx, hj => by
    have e2 := succ_w64 (i := i) (by omega)
    have q1 : (i : Int) < (x.length : Int) := by omega
    have q2 : 0 ≤ (i : Int) := by omega
    have q3 : (i : Int) < (c.f2.length : Int) := by omega
    refine Ev.step (fun k => ?_) (own_loop c h n (i + 1) (x.set i (rd c.f2 (i : Int))) (by omega) (by rw [List.length_set]; exact hx) (fun j hj2 => ?_))
    · simp only [kimberlitelaw03_own.l0]
      rw [if_pos q1, if_pos q2, if_pos q3, e2, Int.toNat_natCast]
    · rw [List.getElem?_set]
      by_cases e : i = j
      · subst e
        rw [if_pos rfl, if_pos (by omega), rd_nat _ _ (by omega), List.getElem?_eq_getElem (by omega)]
      · rw [if_neg e]
        exact hj j (by omega)
theorem own_ev (c : S24) (h : c.f2.length ≤ 100) : Ev (fun k => kimberlitelaw03_own.f k c.f0 c.f1 c.f2) (c.f0, c.f1, c.f2) := by
  have hl := own_loop c (by omega) c.f2.length 0 (List.replicate c.f2.length 0) (by omega) (by rw [List.length_replicate]) (fun j hj => by omega)
  unfold kimberlitelaw03_own.f
  refine Ev.congr (fun k => (if_pos (by omega)).trans (if_pos (by omega))) ?_
  rw [Int.toNat_natCast]
  exact hl
theorem told_loop (b : Bool) (a0 a1 : Int) : ∀ (n i : Nat) (x : List Int), i + n = x.length → x.length ≤ 4611686018427387904 → ∃ r, Ev (fun k => kimberlitelaw03_told.l0 k b (i : Int) a0 a1 x) (b, r)
  | 0, i, x, hi, hx => ⟨x, Ev.step (f := fun _ => some (b, x)) (fun k => by simp only [kimberlitelaw03_told.l0]; rw [if_neg (by omega)]) (Ev.now _)⟩
  | n + 1, i, x, hi, hx => by
    have e2 := succ_w64 (i := i) (by omega)
    have q1 : (i : Int) < (x.length : Int) := by omega
    have q2 : 0 ≤ (i : Int) := by omega
    obtain ⟨r, hr⟩ := told_loop b a0 a1 n (i + 1) (x.set i (-77)) (by rw [List.length_set]; omega) (by rw [List.length_set]; exact hx)
    refine ⟨r, Ev.step (fun k => ?_) hr⟩
    simp only [kimberlitelaw03_told.l0]
    rw [if_pos q1, if_pos q2, e2, Int.toNat_natCast]
/-- told of the same curve and error. -/
theorem told_ev (a0 a1 : Int) (l : List Int) (e : Int) (h : l.length ≤ 1000000) : ∃ r, Ev (fun k => kimberlitelaw03_told.f k a0 a1 l e a0 a1 l e) (true, r) := by
  obtain ⟨r, hr⟩ := told_loop true a0 a1 l.length 0 l (by omega) (by omega)
  refine ⟨r, ?_⟩
  unfold kimberlitelaw03_told.f
  refine Ev.bind (alike_ev a0 a1 l (by omega)) (Ev.congr (fun k => if_pos rfl) ?_)
  rw [show (e == e) = true by simp]
  exact Ev.step (fun k => by simp only [kimberlitelaw03_told.j0]; rfl) hr
theorem in_step (from_ : Int) (vs : List Int) {i : Nat} (h1 : i + 1 < vs.length) (hl : vs.length ≤ 1000) (hb : -4611686018427387904 ≤ rd vs ((i + 1 : Nat) : Int) - rd vs (i : Int) ∧ rd vs ((i + 1 : Nat) : Int) - rd vs (i : Int) ≤ 4611686018427387904) (k : Nat) :
    kimberliteref03_In.l0 (k + 1) ((i + 1 : Nat) : Int) from_ vs from_ (rd vs 0) (difL vs i) = kimberliteref03_In.l0 k ((i + 2 : Nat) : Int) from_ vs from_ (rd vs 0) (difL vs (i + 1)) := by
  have e1 : wrap64 (((i + 1 : Nat) : Int) - 1) = (i : Int) := by clear hb; unfold wrap64; omega
  have e2 : wrap64 (((i + 1 : Nat) : Int) + 1) = ((i + 2 : Nat) : Int) := by clear hb e1; unfold wrap64; omega
  have e3 : wrap64 (rd vs ((i + 1 : Nat) : Int) - rd vs (i : Int)) = rd vs ((i + 1 : Nat) : Int) - rd vs (i : Int) := by clear e1 e2; unfold wrap64; omega
  have q1 : ((i + 1 : Nat) : Int) < (vs.length : Int) := by clear e1 e2 e3 hb; omega
  have q2 : (0 : Int) ≤ ((i + 1 : Nat) : Int) := by clear e1 e2 e3 hb; omega
  have q3 : (0 : Int) ≤ (i : Int) := by clear e1 e2 e3 hb; omega
  have q4 : (i : Int) < (vs.length : Int) := by clear e1 e2 e3 hb; omega
  have q5 : (difL vs i).length < 17592186044416 := by rw [difL_len]; clear e1 e2 e3 hb; omega
  simp only [kimberliteref03_In.l0]
  rw [e1, if_pos q1, if_pos q2, if_pos q3, if_pos q4, if_pos q5, e2, e3, difL_succ]
/-- The curve through values. -/
def thrC (a0 : Int) (vs : List Int) : S24 := ⟨a0, rd vs 0, difL vs (vs.length - 1)⟩
theorem in_loop (from_ : Int) (vs : List Int) (hl : vs.length ≤ 1000) (hb : ∀ i : Nat, i + 1 < vs.length → -4611686018427387904 ≤ rd vs ((i + 1 : Nat) : Int) - rd vs (i : Int) ∧ rd vs ((i + 1 : Nat) : Int) - rd vs (i : Int) ≤ 4611686018427387904) :
    ∀ n i : Nat, i + 1 + n = vs.length → Ev (fun k => kimberliteref03_In.l0 k ((i + 1 : Nat) : Int) from_ vs from_ (rd vs 0) (difL vs i)) (from_, rd vs 0, difL vs (vs.length - 1), decide (Vc (thrC from_ vs)))
  | 0, i, h => by
    have e : i = vs.length - 1 := by omega
    have hv := rvalid_ev (thrC from_ vs)
    refine Ev.step (f := fun k => (kimberliteref03_Valid.f k (thrC from_ vs).f0 (thrC from_ vs).f1 (thrC from_ vs).f2).bind fun t183 => some (from_, rd vs 0, difL vs (vs.length - 1), t183)) (fun k => ?_) (Ev.bind hv (Ev.now _))
    simp only [kimberliteref03_In.l0]
    rw [if_neg (by omega), e]
    rfl
  | n + 1, i, h => Ev.step (in_step from_ vs (by omega) hl (hb i (by omega))) (in_loop from_ vs hl hb n (i + 1) (by omega))
theorem ranged_ev (from_ : Int) (vs : List Int) (h0 : 0 < vs.length) (hl : vs.length ≤ 1000) (hb : ∀ i : Nat, i + 1 < vs.length → -4611686018427387904 ≤ rd vs ((i + 1 : Nat) : Int) - rd vs (i : Int) ∧ rd vs ((i + 1 : Nat) : Int) - rd vs (i : Int) ≤ 4611686018427387904) :
    Ev (fun k => kimberliteref03_ranged.f k from_ vs) (if Vc (thrC from_ vs) then ((thrC from_ vs).f0, (thrC from_ vs).f1, (thrC from_ vs).f2, 0) else (0, 0, [], 4)) := by
  unfold kimberliteref03_ranged.f kimberliteref03_In.f
  have h := in_loop from_ vs hl hb (vs.length - 1) 0 (by omega)
  have e : difL vs 0 = [] := rfl
  rw [e] at h
  refine Ev.bind (Ev.congr (fun k => if_pos (by omega)) h) ?_
  simp only
  by_cases hv : Vc (thrC from_ vs)
  · rw [decide_eq_true hv, if_pos hv]
    exact Ev.congr (f := fun _ => some _) (fun k => if_pos rfl) (Ev.now _)
  · rw [decide_eq_false hv, if_neg hv]
    exact Ev.congr (f := fun _ => some _) (fun k => if_neg (by simp)) (Ev.now _)
end Go.Proofs.Ytingjpcgehgiiaa.Pr
end
