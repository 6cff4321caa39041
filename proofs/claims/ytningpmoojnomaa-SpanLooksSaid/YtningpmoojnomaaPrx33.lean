/- Contracts of functions of the given program, printed by this session's program wip/xprint.py: each Go function's call answers what the plain Lean function of the same name answers. No condition. -/
import Derived.Test.YtningpmoojnomaaPrx0
import Derived.Test.YtningpmoojnomaaPrx6
import Derived.Test.YtningpmoojnomaaPrx7
import Derived.Test.YtningpmoojnomaaPrx9
import Derived.Test.YtningpmoojnomaaPrx10
import Derived.Test.YtningpmoojnomaaPrx30
import Derived.Test.YtningpmoojnomaaExtHas
namespace Go.Proofs.Ytningpmoojnomaa.Pr
open Go.RowKit Go.Proofs.YtningpmoojnomaaW.PrintWords Go.Proofs.YtningpmoojnomaaW.PrintLast Go.Proofs.YtningpmoojnomaaW.PrintMore
attribute [local go_sem] max2_int min2_int max_two min_two max_three min_three max_four min_four   -- for this text's walks alone
set_option linter.unusedVariables false
set_option linter.unusedSimpArgs false

/-! ### kimberlitelaw01_SpanLooks: function 6 -/
mutual
def kimberlitelaw01_SpanLooks.j0 : Nat → List (S32) → Int → Int → Bool → Option (Bool)
  | 0, _, _, _, _ => none
  | k + 1, x0, x1, x2, x36 => if x36 = true then (some false) else ((span_Size.f k x0).bind fun bt484 => ((kimberliteref01_Size.f k x0).bind fun bt486 => (if bt484.1 = bt486.1 then (kimberlitelaw01_SpanLooks.j1 k x0 x1 x2 (bt484.2 != bt486.2)) else (kimberlitelaw01_SpanLooks.j1 k x0 x1 x2 true))))
def kimberlitelaw01_SpanLooks.j1 : Nat → List (S32) → Int → Int → Bool → Option (Bool)
  | 0, _, _, _, _ => none
  | k + 1, x0, x1, x2, x54 => if x54 = true then (some false) else ((span_Nth.f k x0 x2).bind fun bt488 => ((kimberliteref01_Nth.f k x0 x2).bind fun bt490 => (if bt488.1 = bt490.1 then (kimberlitelaw01_SpanLooks.j2 k x0 x1 (bt488.2 != bt490.2)) else (kimberlitelaw01_SpanLooks.j2 k x0 x1 true))))
def kimberlitelaw01_SpanLooks.j2 : Nat → List (S32) → Int → Bool → Option (Bool)
  | 0, _, _, _ => none
  | k + 1, x0, x1, x74 => if x74 = true then (some false) else ((span_Rank.f k x0 x1).bind fun bt492 => ((kimberliteref01_Rank.f k x0 x1).bind fun bt494 => (if bt492.1 = bt494.1 then (if bt492.2 = bt494.2 then ((kimberlitelaw01_alive.f k).bind fun t496 => (some t496)) else (some false)) else (some false))))
end
def kimberlitelaw01_SpanLooks.f (k : Nat) (l0 : List (S32)) (a1 : Int) (a2 : Int) : Option (Bool) := (kimberlitelaw01_few.f l0).bind fun t478 => (if t478 = true then ((span_Has.f k l0 a1).bind fun bt480 => ((kimberliteref01_Has.f k l0 a1).bind fun bt482 => (if (bt480.1 != bt482.1) = true then (kimberlitelaw01_SpanLooks.j0 k l0 a1 a2 true) else (kimberlitelaw01_SpanLooks.j0 k l0 a1 a2 (bt480.2 != bt482.2))))) else ((kimberlitelaw01_alive.f k).bind fun t479 => (some t479)))
theorem kimberlitelaw01_SpanLooks.mono_l : ∀ k, (∀ y0 y1 y2 y3, LeO (kimberlitelaw01_SpanLooks.j0 k y0 y1 y2 y3) (kimberlitelaw01_SpanLooks.j0 (k + 1) y0 y1 y2 y3)) ∧ (∀ y0 y1 y2 y3, LeO (kimberlitelaw01_SpanLooks.j1 k y0 y1 y2 y3) (kimberlitelaw01_SpanLooks.j1 (k + 1) y0 y1 y2 y3)) ∧ (∀ y0 y1 y2, LeO (kimberlitelaw01_SpanLooks.j2 k y0 y1 y2) (kimberlitelaw01_SpanLooks.j2 (k + 1) y0 y1 y2))
  | 0 => ⟨fun _ _ _ _ r h => by simp [kimberlitelaw01_SpanLooks.j0] at h, fun _ _ _ _ r h => by simp [kimberlitelaw01_SpanLooks.j1] at h, fun _ _ _ r h => by simp [kimberlitelaw01_SpanLooks.j2] at h⟩
  | k + 1 => by
    obtain ⟨ih0, ih1, ih2⟩ := kimberlitelaw01_SpanLooks.mono_l k
    refine ⟨?_, ?_, ?_⟩
    · intro y0 y1 y2 y3
      unfold kimberlitelaw01_SpanLooks.j0
      repeat' first
      | (with_reducible exact ih0 _ _ _ _)
      | (with_reducible exact ih1 _ _ _ _)
      | (with_reducible exact ih2 _ _ _)
      | (with_reducible exact kimberlitelaw01_alive.mono _)
      | (with_reducible exact kimberliteref01_Has.mono _ _ _)
      | (with_reducible exact kimberliteref01_Nth.mono _ _ _)
      | (with_reducible exact kimberliteref01_Rank.mono _ _ _)
      | (with_reducible exact kimberliteref01_Size.mono _ _)
      | (with_reducible exact span_Has.mono _ _ _)
      | (with_reducible exact span_Nth.mono _ _ _)
      | (with_reducible exact span_Rank.mono _ _ _)
      | (with_reducible exact span_Size.mono _ _)
      | (with_reducible exact LeO.refl _)
      | (with_reducible exact LeO.none _)
      | (with_reducible refine LeO.ite ?_ ?_)
      | (with_reducible refine LeO.bind ?_ (fun _ => ?_))
      | exact ih0 _ _ _ _
      | exact ih1 _ _ _ _
      | exact ih2 _ _ _
      | exact kimberlitelaw01_alive.mono _
      | exact kimberliteref01_Has.mono _ _ _
      | exact kimberliteref01_Nth.mono _ _ _
      | exact kimberliteref01_Rank.mono _ _ _
      | exact kimberliteref01_Size.mono _ _
      | exact span_Has.mono _ _ _
      | exact span_Nth.mono _ _ _
      | exact span_Rank.mono _ _ _
      | exact span_Size.mono _ _
      | exact LeO.none _
      | refine LeO.ite ?_ ?_
      | refine LeO.bind ?_ (fun _ => ?_)
    · intro y0 y1 y2 y3
      unfold kimberlitelaw01_SpanLooks.j1
      repeat' first
      | (with_reducible exact ih0 _ _ _ _)
      | (with_reducible exact ih1 _ _ _ _)
      | (with_reducible exact ih2 _ _ _)
      | (with_reducible exact kimberlitelaw01_alive.mono _)
      | (with_reducible exact kimberliteref01_Has.mono _ _ _)
      | (with_reducible exact kimberliteref01_Nth.mono _ _ _)
      | (with_reducible exact kimberliteref01_Rank.mono _ _ _)
      | (with_reducible exact kimberliteref01_Size.mono _ _)
      | (with_reducible exact span_Has.mono _ _ _)
      | (with_reducible exact span_Nth.mono _ _ _)
      | (with_reducible exact span_Rank.mono _ _ _)
      | (with_reducible exact span_Size.mono _ _)
      | (with_reducible exact LeO.refl _)
      | (with_reducible exact LeO.none _)
      | (with_reducible refine LeO.ite ?_ ?_)
      | (with_reducible refine LeO.bind ?_ (fun _ => ?_))
      | exact ih0 _ _ _ _
      | exact ih1 _ _ _ _
      | exact ih2 _ _ _
      | exact kimberlitelaw01_alive.mono _
      | exact kimberliteref01_Has.mono _ _ _
      | exact kimberliteref01_Nth.mono _ _ _
      | exact kimberliteref01_Rank.mono _ _ _
      | exact kimberliteref01_Size.mono _ _
      | exact span_Has.mono _ _ _
      | exact span_Nth.mono _ _ _
      | exact span_Rank.mono _ _ _
      | exact span_Size.mono _ _
      | exact LeO.none _
      | refine LeO.ite ?_ ?_
      | refine LeO.bind ?_ (fun _ => ?_)
    · intro y0 y1 y2
      unfold kimberlitelaw01_SpanLooks.j2
      repeat' first
      | (with_reducible exact ih0 _ _ _ _)
      | (with_reducible exact ih1 _ _ _ _)
      | (with_reducible exact ih2 _ _ _)
      | (with_reducible exact kimberlitelaw01_alive.mono _)
      | (with_reducible exact kimberliteref01_Has.mono _ _ _)
      | (with_reducible exact kimberliteref01_Nth.mono _ _ _)
      | (with_reducible exact kimberliteref01_Rank.mono _ _ _)
      | (with_reducible exact kimberliteref01_Size.mono _ _)
      | (with_reducible exact span_Has.mono _ _ _)
      | (with_reducible exact span_Nth.mono _ _ _)
      | (with_reducible exact span_Rank.mono _ _ _)
      | (with_reducible exact span_Size.mono _ _)
      | (with_reducible exact LeO.refl _)
      | (with_reducible exact LeO.none _)
      | (with_reducible refine LeO.ite ?_ ?_)
      | (with_reducible refine LeO.bind ?_ (fun _ => ?_))
      | exact ih0 _ _ _ _
      | exact ih1 _ _ _ _
      | exact ih2 _ _ _
      | exact kimberlitelaw01_alive.mono _
      | exact kimberliteref01_Has.mono _ _ _
      | exact kimberliteref01_Nth.mono _ _ _
      | exact kimberliteref01_Rank.mono _ _ _
      | exact kimberliteref01_Size.mono _ _
      | exact span_Has.mono _ _ _
      | exact span_Nth.mono _ _ _
      | exact span_Rank.mono _ _ _
      | exact span_Size.mono _ _
      | exact LeO.none _
      | refine LeO.ite ?_ ?_
      | refine LeO.bind ?_ (fun _ => ?_)
theorem kimberlitelaw01_SpanLooks.mono : ∀ a0 a1 a2 k, LeO (kimberlitelaw01_SpanLooks.f k a0 a1 a2) (kimberlitelaw01_SpanLooks.f (k + 1) a0 a1 a2) := by
  intro a0 a1 a2 k
  obtain ⟨ih0, ih1, ih2⟩ := kimberlitelaw01_SpanLooks.mono_l k
  unfold kimberlitelaw01_SpanLooks.f
  repeat' first
      | (with_reducible exact ih0 _ _ _ _)
      | (with_reducible exact ih1 _ _ _ _)
      | (with_reducible exact ih2 _ _ _)
      | (with_reducible exact kimberlitelaw01_alive.mono _)
      | (with_reducible exact kimberliteref01_Has.mono _ _ _)
      | (with_reducible exact kimberliteref01_Nth.mono _ _ _)
      | (with_reducible exact kimberliteref01_Rank.mono _ _ _)
      | (with_reducible exact kimberliteref01_Size.mono _ _)
      | (with_reducible exact span_Has.mono _ _ _)
      | (with_reducible exact span_Nth.mono _ _ _)
      | (with_reducible exact span_Rank.mono _ _ _)
      | (with_reducible exact span_Size.mono _ _)
      | (with_reducible exact LeO.refl _)
      | (with_reducible exact LeO.none _)
      | (with_reducible refine LeO.ite ?_ ?_)
      | (with_reducible refine LeO.bind ?_ (fun _ => ?_))
      | exact ih0 _ _ _ _
      | exact ih1 _ _ _ _
      | exact ih2 _ _ _
      | exact kimberlitelaw01_alive.mono _
      | exact kimberliteref01_Has.mono _ _ _
      | exact kimberliteref01_Nth.mono _ _ _
      | exact kimberliteref01_Rank.mono _ _ _
      | exact kimberliteref01_Size.mono _ _
      | exact span_Has.mono _ _ _
      | exact span_Nth.mono _ _ _
      | exact span_Rank.mono _ _ _
      | exact span_Size.mono _ _
      | exact LeO.none _
      | refine LeO.ite ?_ ?_
      | refine LeO.bind ?_ (fun _ => ?_)
set_option maxHeartbeats 8000000 in
set_option maxRecDepth 100000 in
theorem kimberlitelaw01_SpanLooks.calls (k : Nat) (A0 : Option Addr) (c0 : Nat) (l0 : List (S32)) (a1 : Int) (a2 : Int) (r : Bool) (w : World) (hr0 : Kd.C k32 w A0 l0.length l0) (hc0 : l0.length ≤ c0) (h : kimberlitelaw01_SpanLooks.f k l0 a1 a2 = some r) :
    Calls Try.prog 6 #[.slice A0 l0.length c0, .int .i64 a1, .int .i64 a2] w fun e w' => e = .returned (.bool r) ∧ Below w.heap.size w w' := by
  have HR0 := Aside0.mk hr0
  have HC0 := Aside0.mk hc0
  clear hr0 hc0
  have HB := Aside0.mk (Below.refl w.heap.size w)
  have H : ((kimberlitelaw01_few.f l0).bind fun t478 => (if t478 = true then ((span_Has.f k l0 a1).bind fun bt480 => ((kimberliteref01_Has.f k l0 a1).bind fun bt482 => (if (bt480.1 != bt482.1) = true then (kimberlitelaw01_SpanLooks.j0 k l0 a1 a2 true) else (kimberlitelaw01_SpanLooks.j0 k l0 a1 a2 (bt480.2 != bt482.2))))) else ((kimberlitelaw01_alive.f k).bind fun t479 => (some t479)))) = some r := h
  clear h
  replace H := Option.bind_eq_some_iff.mp H
  obtain ⟨t478, A40, H⟩ := H
  replace H : (if t478 = true then ((span_Has.f k l0 a1).bind fun bt480 => ((kimberliteref01_Has.f k l0 a1).bind fun bt482 => (if (bt480.1 != bt482.1) = true then (kimberlitelaw01_SpanLooks.j0 k l0 a1 a2 true) else (kimberlitelaw01_SpanLooks.j0 k l0 a1 a2 (bt480.2 != bt482.2))))) else ((kimberlitelaw01_alive.f k).bind fun t479 => (some t479))) = some r := H
  have A4 := Aside0.mk A40
  clear A40
  by_cases c5 : t478 = true
  · subst c5
    have H1 : ((span_Has.f k l0 a1).bind fun bt480 => ((kimberliteref01_Has.f k l0 a1).bind fun bt482 => (if (bt480.1 != bt482.1) = true then (kimberlitelaw01_SpanLooks.j0 k l0 a1 a2 true) else (kimberlitelaw01_SpanLooks.j0 k l0 a1 a2 (bt480.2 != bt482.2))))) = some r := by rw [if_pos rfl] at H; exact H
    clear H
    have H := H1
    clear H1
    replace H := Option.bind_eq_some_iff.mp H
    obtain ⟨⟨t480, t481⟩, A60, H⟩ := H
    replace H : ((kimberliteref01_Has.f k l0 a1).bind fun bt482 => (if (t480 != bt482.1) = true then (kimberlitelaw01_SpanLooks.j0 k l0 a1 a2 true) else (kimberlitelaw01_SpanLooks.j0 k l0 a1 a2 (t481 != bt482.2)))) = some r := H
    have A6 := Aside0.mk A60
    clear A60
    replace H := Option.bind_eq_some_iff.mp H
    obtain ⟨⟨t482, t483⟩, A70, H⟩ := H
    replace H : (if (t480 != t482) = true then (kimberlitelaw01_SpanLooks.j0 k l0 a1 a2 true) else (kimberlitelaw01_SpanLooks.j0 k l0 a1 a2 (t481 != t483))) = some r := H
    have A7 := Aside0.mk A70
    clear A70
    have HC8 := Aside0.mk H
    clear H
    go_enter Try.func6, Try.ntmps6
    go_upto_region 5 with (first | ((with_reducible refine gate_callee (f := 15) rfl ?_); refine goesL_ (some 14) rfl rfl Try.func15 (by kernel_rfl) rfl #[.slice A0 l0.length c0] rfl (by (try simp only [List.map_toArray, List.map_cons, List.map_nil]); first | done | rfl | (simp only [List.length_drop, List.length_take]; rfl)) ?_; (with_reducible refine (kimberlitelaw01_few.calls _ _ l0 true _ ?side1 ?side2 A4.out).mono ?_); (case side1 => repeat (first | exact HR0.out | (with_reducible refine Kd.C_alloc ?_ _) | (with_reducible refine Kd.C_drewN ?_ _) | (with_reducible refine Kd.C_drew ?_))); (case side2 => exact HC0.out); rintro e w' ⟨rfl, ⟨nd, rfl⟩⟩; refine ⟨_, rfl, ?_⟩) | ((with_reducible refine gate_callee (f := 30) rfl ?_); refine goesL_ (some 20) rfl rfl Try.func30 (by kernel_rfl) rfl #[.slice A0 l0.length c0, .int .i64 a1] rfl (by (try simp only [List.map_toArray, List.map_cons, List.map_nil]); first | done | rfl | (simp only [List.length_drop, List.length_take]; rfl)) ?_; (with_reducible refine (span_Has.calls k _ _ l0 a1 t480 t481 _ ?side1 ?side2 A6.out).mono ?_); (case side1 => repeat (first | exact HR0.out | (with_reducible refine Kd.C_alloc ?_ _) | (with_reducible refine Kd.C_drewN ?_ _) | (with_reducible refine Kd.C_drew ?_))); (case side2 => exact HC0.out); rintro e w9 ⟨rfl, hb⟩; refine ⟨_, rfl, ?_⟩; have n0_ := Aside0.mk (below_step (by repeat (first | (with_reducible first | exact HB.out | apply below_alloc | apply pw_below_drewN | apply below_drew1) | exact HB.out)) hb); clear HB; have HB := n0_; clear n0_; (try clear hb); (try clear hb2); (try clear hk); (try clear hi)) | ((with_reducible refine gate_callee (f := 31) rfl ?_); refine goesL_ (some 26) rfl rfl Try.func31 (by kernel_rfl) rfl #[.slice A0 l0.length c0, .int .i64 a1] rfl (by (try simp only [List.map_toArray, List.map_cons, List.map_nil]); first | done | rfl | (simp only [List.length_drop, List.length_take]; rfl)) ?_; (with_reducible refine (kimberliteref01_Has.calls k _ _ l0 a1 t482 t483 _ ?side1 ?side2 A7.out).mono ?_); (case side1 => repeat (first | exact (Kd.C_below HR0.out HB.out) | (with_reducible refine Kd.C_alloc ?_ _) | (with_reducible refine Kd.C_drewN ?_ _) | (with_reducible refine Kd.C_drew ?_))); (case side2 => exact HC0.out); rintro e w10 ⟨rfl, hb⟩; refine ⟨_, rfl, ?_⟩; have n0_ := Aside0.mk (below_step (by repeat (first | (with_reducible first | exact HB.out | apply below_alloc | apply pw_below_drewN | apply below_drew1) | exact HB.out)) hb); clear HB; have HB := n0_; clear n0_; (try clear hb); (try clear hb2); (try clear hk); (try clear hi)))
    (try simp only [Act.put, List.setIfInBounds_toArray, List.set_cons_zero, List.set_cons_succ])
    go_cut [36] (fun v36 wc => ∃ (kq : Nat) (x36_7 : Bool), v36 = .bool x36_7 ∧ Aside0 (kimberlitelaw01_SpanLooks.j0 kq l0 a1 a2 x36_7 = some r) ∧ Aside0 (kq ≤ k) ∧ Aside0 (Below w.heap.size w wc))
    case first =>
      have H := HC8.out
      clear HC8
      by_cases c11 : (t480 != t482) = true
      · rw [if_pos c11] at H
        have c11b0 : (t480 != t482) = true := c11
        (try (have c11b1 : decide (t480 = t482) = false := by simpa using c11))
        (try (have c11b2 : (t480 == t482) = false := by simpa using c11))
        (try (have c11b3 : ¬ (t480 = t482) := by simpa using c11))
        clear c11
        (first | rw [c11b0] | (simp only [i64_w, i32_w]; rw [c11b0]) | skip)
        have H' := Aside0.mk H
        clear H
        go_wp2
        go_meet
        case rel => exact ⟨_, (true), (by first | rfl | (simp; done) | (simp [*]; done)), H', ⟨by first | omega | exact Nat.le_refl _⟩, ⟨by repeat (first | (with_reducible first | exact HB.out | apply below_alloc | apply pw_below_drewN | apply below_drew1) | exact HB.out)⟩⟩
      · rw [if_neg c11] at H
        have c11b0 : (t480 != t482) = false := by simpa using c11
        (try (have c11b1 : decide (t480 = t482) = true := by simpa using c11))
        (try (have c11b2 : (t480 == t482) = true := by simpa using c11))
        clear c11
        (first | rw [c11b0] | (simp only [i64_w, i32_w]; rw [c11b0]) | skip)
        have H' := Aside0.mk H
        clear H
        go_wp2
        go_meet
        case rel => exact ⟨_, ((t481 != t483)), (by first | rfl | (simp; done) | (simp [*]; done)), H', ⟨by first | omega | exact Nat.le_refl _⟩, ⟨by repeat (first | (with_reducible first | exact HB.out | apply below_alloc | apply pw_below_drewN | apply below_drew1) | exact HB.out)⟩⟩
    case rest =>
      clear HC8
      try clear c1
      try clear p2
      try clear c3
      try clear c5
      try clear c6
      try clear c11
      try clear c11b0
      try clear c11b1
      try clear c11b2
      obtain ⟨kq, x36_7, rfl, HA, HJ7, HB⟩ := hcut
      cases kq with
      | zero => exact absurd HA.out (by simp [kimberlitelaw01_SpanLooks.j0])
      | succ kj7 =>
        have H := HA.out
        clear HA
        simp only [kimberlitelaw01_SpanLooks.j0] at H
        by_cases c12 : x36_7 = true
        · subst c12
          have H1 : (some false) = some r := by rw [if_pos rfl] at H; exact H
          clear H
          have H := H1
          clear H1
          obtain rfl := Option.some.inj H
          go_wp2
          go_ret
          exact ⟨by first | rfl | (simp [errW_none, errW_some] <;> rfl) | (simp [*, errW_none, errW_some] <;> rfl), by repeat (first | (with_reducible first | exact HB.out | apply below_alloc | apply pw_below_drewN | apply below_drew1) | exact HB.out)⟩
        · replace c12 := Bool.eq_false_iff.mpr c12
          subst c12
          have H1 : ((span_Size.f kj7 l0).bind fun bt484 => ((kimberliteref01_Size.f kj7 l0).bind fun bt486 => (if bt484.1 = bt486.1 then (kimberlitelaw01_SpanLooks.j1 kj7 l0 a1 a2 (bt484.2 != bt486.2)) else (kimberlitelaw01_SpanLooks.j1 kj7 l0 a1 a2 true)))) = some r := by rw [if_neg (show ¬ (false = true) by decide)] at H; exact H
          clear H
          have H := H1
          clear H1
          replace H := Option.bind_eq_some_iff.mp H
          obtain ⟨⟨t484, t485⟩, A130, H⟩ := H
          replace H : ((kimberliteref01_Size.f kj7 l0).bind fun bt486 => (if t484 = bt486.1 then (kimberlitelaw01_SpanLooks.j1 kj7 l0 a1 a2 (t485 != bt486.2)) else (kimberlitelaw01_SpanLooks.j1 kj7 l0 a1 a2 true))) = some r := H
          have A13 := Aside0.mk A130
          clear A130
          replace H := Option.bind_eq_some_iff.mp H
          obtain ⟨⟨t486, t487⟩, A140, H⟩ := H
          replace H : (if t484 = t486 then (kimberlitelaw01_SpanLooks.j1 kj7 l0 a1 a2 (t485 != t487)) else (kimberlitelaw01_SpanLooks.j1 kj7 l0 a1 a2 true)) = some r := H
          have A14 := Aside0.mk A140
          clear A140
          have HC15 := Aside0.mk H
          clear H
          go_upto_region 9 with (first | ((with_reducible refine gate_callee (f := 32) rfl ?_); refine goesL_ (some 39) rfl rfl Try.func32 (by kernel_rfl) rfl #[.slice A0 l0.length c0] rfl (by (try simp only [List.map_toArray, List.map_cons, List.map_nil]); first | done | rfl | (simp only [List.length_drop, List.length_take]; rfl)) ?_; (with_reducible refine (span_Size.calls kj7 _ _ l0 t484 t485 _ ?side1 ?side2 A13.out).mono ?_); (case side1 => repeat (first | exact (Kd.C_below HR0.out HB.out) | (with_reducible refine Kd.C_alloc ?_ _) | (with_reducible refine Kd.C_drewN ?_ _) | (with_reducible refine Kd.C_drew ?_))); (case side2 => exact HC0.out); rintro e w16 ⟨rfl, hb⟩; refine ⟨_, rfl, ?_⟩; have n0_ := Aside0.mk (below_step (by repeat (first | (with_reducible first | exact HB.out | apply below_alloc | apply pw_below_drewN | apply below_drew1) | exact HB.out)) hb); clear HB; have HB := n0_; clear n0_; (try clear hb); (try clear hb2); (try clear hk); (try clear hi)) | ((with_reducible refine gate_callee (f := 33) rfl ?_); refine goesL_ (some 44) rfl rfl Try.func33 (by kernel_rfl) rfl #[.slice A0 l0.length c0] rfl (by (try simp only [List.map_toArray, List.map_cons, List.map_nil]); first | done | rfl | (simp only [List.length_drop, List.length_take]; rfl)) ?_; (with_reducible refine (kimberliteref01_Size.calls kj7 _ _ l0 t486 t487 _ ?side1 ?side2 A14.out).mono ?_); (case side1 => repeat (first | exact (Kd.C_below HR0.out HB.out) | (with_reducible refine Kd.C_alloc ?_ _) | (with_reducible refine Kd.C_drewN ?_ _) | (with_reducible refine Kd.C_drew ?_))); (case side2 => exact HC0.out); rintro e w17 ⟨rfl, hb⟩; refine ⟨_, rfl, ?_⟩; have n0_ := Aside0.mk (below_step (by repeat (first | (with_reducible first | exact HB.out | apply below_alloc | apply pw_below_drewN | apply below_drew1) | exact HB.out)) hb); clear HB; have HB := n0_; clear n0_; (try clear hb); (try clear hb2); (try clear hk); (try clear hi)))
          (try simp only [Act.put, List.setIfInBounds_toArray, List.set_cons_zero, List.set_cons_succ])
          go_cut [54] (fun v54 wc => ∃ (kq : Nat) (x54_14 : Bool), v54 = .bool x54_14 ∧ Aside0 (kimberlitelaw01_SpanLooks.j1 kq l0 a1 a2 x54_14 = some r) ∧ Aside0 (kq ≤ kj7) ∧ Aside0 (Below w.heap.size w wc))
          case first =>
            have H := HC15.out
            clear HC15
            by_cases c18 : t484 = t486
            · rw [if_pos c18] at H
              have c18b0 : (t484 == t486) = true := beq_iff_eq.mpr c18
              have c18b1 : (t484 != t486) = false := bne_eq_false_iff_eq.mpr c18
              clear c18
              (first | rw [c18b0] | (simp only [i64_w, i32_w]; rw [c18b0]) | skip)
              have H' := Aside0.mk H
              clear H
              go_wp2
              go_meet
              case rel => exact ⟨_, ((t485 != t487)), (by first | rfl | (simp; done) | (simp [*]; done)), H', ⟨by have := HJ7.out; first | omega | exact Nat.le_refl _⟩, ⟨by repeat (first | (with_reducible first | exact HB.out | apply below_alloc | apply pw_below_drewN | apply below_drew1) | exact HB.out)⟩⟩
            · rw [if_neg c18] at H
              have c18b0 : (t484 == t486) = false := beq_eq_false_iff_ne.mpr c18
              have c18b1 : (t484 != t486) = true := bne_iff_ne.mpr c18
              (first | rw [c18b0] | (simp only [i64_w, i32_w]; rw [c18b0]) | skip)
              have H' := Aside0.mk H
              clear H
              go_wp2
              go_meet
              case rel => exact ⟨_, (true), (by first | rfl | (simp; done) | (simp [*]; done)), H', ⟨by have := HJ7.out; first | omega | exact Nat.le_refl _⟩, ⟨by repeat (first | (with_reducible first | exact HB.out | apply below_alloc | apply pw_below_drewN | apply below_drew1) | exact HB.out)⟩⟩
          case rest =>
            clear HC15
            try clear c1
            try clear p2
            try clear c3
            try clear c5
            try clear c6
            try clear c11
            try clear c11b0
            try clear c11b1
            try clear c11b2
            try clear c12
            try clear c15
            try clear c18
            try clear c18b0
            try clear c18b1
            try clear p2
            obtain ⟨kq, x54_14, rfl, HA, HJ14, HB⟩ := hcut
            cases kq with
            | zero => exact absurd HA.out (by simp [kimberlitelaw01_SpanLooks.j1])
            | succ kj14 =>
              have H := HA.out
              clear HA
              simp only [kimberlitelaw01_SpanLooks.j1] at H
              by_cases c19 : x54_14 = true
              · subst c19
                have H1 : (some false) = some r := by rw [if_pos rfl] at H; exact H
                clear H
                have H := H1
                clear H1
                obtain rfl := Option.some.inj H
                go_wp2
                go_ret
                exact ⟨by first | rfl | (simp [errW_none, errW_some] <;> rfl) | (simp [*, errW_none, errW_some] <;> rfl), by repeat (first | (with_reducible first | exact HB.out | apply below_alloc | apply pw_below_drewN | apply below_drew1) | exact HB.out)⟩
              · replace c19 := Bool.eq_false_iff.mpr c19
                subst c19
                have H1 : ((span_Nth.f kj14 l0 a2).bind fun bt488 => ((kimberliteref01_Nth.f kj14 l0 a2).bind fun bt490 => (if bt488.1 = bt490.1 then (kimberlitelaw01_SpanLooks.j2 kj14 l0 a1 (bt488.2 != bt490.2)) else (kimberlitelaw01_SpanLooks.j2 kj14 l0 a1 true)))) = some r := by rw [if_neg (show ¬ (false = true) by decide)] at H; exact H
                clear H
                have H := H1
                clear H1
                replace H := Option.bind_eq_some_iff.mp H
                obtain ⟨⟨t488, t489⟩, A200, H⟩ := H
                replace H : ((kimberliteref01_Nth.f kj14 l0 a2).bind fun bt490 => (if t488 = bt490.1 then (kimberlitelaw01_SpanLooks.j2 kj14 l0 a1 (t489 != bt490.2)) else (kimberlitelaw01_SpanLooks.j2 kj14 l0 a1 true))) = some r := H
                have A20 := Aside0.mk A200
                clear A200
                replace H := Option.bind_eq_some_iff.mp H
                obtain ⟨⟨t490, t491⟩, A210, H⟩ := H
                replace H : (if t488 = t490 then (kimberlitelaw01_SpanLooks.j2 kj14 l0 a1 (t489 != t491)) else (kimberlitelaw01_SpanLooks.j2 kj14 l0 a1 true)) = some r := H
                have A21 := Aside0.mk A210
                clear A210
                have HC22 := Aside0.mk H
                clear H
                go_upto_region 13 with (first | ((with_reducible refine gate_callee (f := 34) rfl ?_); refine goesL_ (some 58) rfl rfl Try.func34 (by kernel_rfl) rfl #[.slice A0 l0.length c0, .int .i64 a2] rfl (by (try simp only [List.map_toArray, List.map_cons, List.map_nil]); first | done | rfl | (simp only [List.length_drop, List.length_take]; rfl)) ?_; (with_reducible refine (span_Nth.calls kj14 _ _ l0 a2 t488 t489 _ ?side1 ?side2 A20.out).mono ?_); (case side1 => repeat (first | exact (Kd.C_below HR0.out HB.out) | (with_reducible refine Kd.C_alloc ?_ _) | (with_reducible refine Kd.C_drewN ?_ _) | (with_reducible refine Kd.C_drew ?_))); (case side2 => exact HC0.out); rintro e w23 ⟨rfl, hb⟩; refine ⟨_, rfl, ?_⟩; have n0_ := Aside0.mk (below_step (by repeat (first | (with_reducible first | exact HB.out | apply below_alloc | apply pw_below_drewN | apply below_drew1) | exact HB.out)) hb); clear HB; have HB := n0_; clear n0_; (try clear hb); (try clear hb2); (try clear hk); (try clear hi)) | ((with_reducible refine gate_callee (f := 35) rfl ?_); refine goesL_ (some 64) rfl rfl Try.func35 (by kernel_rfl) rfl #[.slice A0 l0.length c0, .int .i64 a2] rfl (by (try simp only [List.map_toArray, List.map_cons, List.map_nil]); first | done | rfl | (simp only [List.length_drop, List.length_take]; rfl)) ?_; (with_reducible refine (kimberliteref01_Nth.calls kj14 _ _ l0 a2 t490 t491 _ ?side1 ?side2 A21.out).mono ?_); (case side1 => repeat (first | exact (Kd.C_below HR0.out HB.out) | (with_reducible refine Kd.C_alloc ?_ _) | (with_reducible refine Kd.C_drewN ?_ _) | (with_reducible refine Kd.C_drew ?_))); (case side2 => exact HC0.out); rintro e w24 ⟨rfl, hb⟩; refine ⟨_, rfl, ?_⟩; have n0_ := Aside0.mk (below_step (by repeat (first | (with_reducible first | exact HB.out | apply below_alloc | apply pw_below_drewN | apply below_drew1) | exact HB.out)) hb); clear HB; have HB := n0_; clear n0_; (try clear hb); (try clear hb2); (try clear hk); (try clear hi)))
                (try simp only [Act.put, List.setIfInBounds_toArray, List.set_cons_zero, List.set_cons_succ])
                go_cut [74] (fun v74 wc => ∃ (kq : Nat) (x74_21 : Bool), v74 = .bool x74_21 ∧ Aside0 (kimberlitelaw01_SpanLooks.j2 kq l0 a1 x74_21 = some r) ∧ Aside0 (kq ≤ kj14) ∧ Aside0 (Below w.heap.size w wc))
                case first =>
                  have H := HC22.out
                  clear HC22
                  by_cases c25 : t488 = t490
                  · rw [if_pos c25] at H
                    have c25b0 : (t488 == t490) = true := beq_iff_eq.mpr c25
                    have c25b1 : (t488 != t490) = false := bne_eq_false_iff_eq.mpr c25
                    clear c25
                    (first | rw [c25b0] | (simp only [i64_w, i32_w]; rw [c25b0]) | skip)
                    have H' := Aside0.mk H
                    clear H
                    go_wp2
                    go_meet
                    case rel => exact ⟨_, ((t489 != t491)), (by first | rfl | (simp; done) | (simp [*]; done)), H', ⟨by have := HJ7.out; have := HJ14.out; first | omega | exact Nat.le_refl _⟩, ⟨by repeat (first | (with_reducible first | exact HB.out | apply below_alloc | apply pw_below_drewN | apply below_drew1) | exact HB.out)⟩⟩
                  · rw [if_neg c25] at H
                    have c25b0 : (t488 == t490) = false := beq_eq_false_iff_ne.mpr c25
                    have c25b1 : (t488 != t490) = true := bne_iff_ne.mpr c25
                    (first | rw [c25b0] | (simp only [i64_w, i32_w]; rw [c25b0]) | skip)
                    have H' := Aside0.mk H
                    clear H
                    go_wp2
                    go_meet
                    case rel => exact ⟨_, (true), (by first | rfl | (simp; done) | (simp [*]; done)), H', ⟨by have := HJ7.out; have := HJ14.out; first | omega | exact Nat.le_refl _⟩, ⟨by repeat (first | (with_reducible first | exact HB.out | apply below_alloc | apply pw_below_drewN | apply below_drew1) | exact HB.out)⟩⟩
                case rest =>
                  clear HC22
                  try clear c1
                  try clear c2
                  try clear p2
                  try clear c3
                  try clear c5
                  try clear c6
                  try clear c11
                  try clear c11b0
                  try clear c11b1
                  try clear c11b2
                  try clear c12
                  try clear c15
                  try clear c18
                  try clear c18b0
                  try clear c18b1
                  try clear c19
                  try clear c25
                  try clear c25b0
                  try clear c25b1
                  try clear p2
                  obtain ⟨kq, x74_21, rfl, HA, HJ21, HB⟩ := hcut
                  cases kq with
                  | zero => exact absurd HA.out (by simp [kimberlitelaw01_SpanLooks.j2])
                  | succ kj21 =>
                    have H := HA.out
                    clear HA
                    simp only [kimberlitelaw01_SpanLooks.j2] at H
                    by_cases c26 : x74_21 = true
                    · subst c26
                      have H1 : (some false) = some r := by rw [if_pos rfl] at H; exact H
                      clear H
                      have H := H1
                      clear H1
                      obtain rfl := Option.some.inj H
                      go_wp2
                      go_ret
                      exact ⟨by first | rfl | (simp [errW_none, errW_some] <;> rfl) | (simp [*, errW_none, errW_some] <;> rfl), by repeat (first | (with_reducible first | exact HB.out | apply below_alloc | apply pw_below_drewN | apply below_drew1) | exact HB.out)⟩
                    · replace c26 := Bool.eq_false_iff.mpr c26
                      subst c26
                      have H1 : ((span_Rank.f kj21 l0 a1).bind fun bt492 => ((kimberliteref01_Rank.f kj21 l0 a1).bind fun bt494 => (if bt492.1 = bt494.1 then (if bt492.2 = bt494.2 then ((kimberlitelaw01_alive.f kj21).bind fun t496 => (some t496)) else (some false)) else (some false)))) = some r := by rw [if_neg (show ¬ (false = true) by decide)] at H; exact H
                      clear H
                      have H := H1
                      clear H1
                      replace H := Option.bind_eq_some_iff.mp H
                      obtain ⟨⟨t492, t493⟩, A270, H⟩ := H
                      replace H : ((kimberliteref01_Rank.f kj21 l0 a1).bind fun bt494 => (if t492 = bt494.1 then (if t493 = bt494.2 then ((kimberlitelaw01_alive.f kj21).bind fun t496 => (some t496)) else (some false)) else (some false))) = some r := H
                      have A27 := Aside0.mk A270
                      clear A270
                      replace H := Option.bind_eq_some_iff.mp H
                      obtain ⟨⟨t494, t495⟩, A280, H⟩ := H
                      replace H : (if t492 = t494 then (if t493 = t495 then ((kimberlitelaw01_alive.f kj21).bind fun t496 => (some t496)) else (some false)) else (some false)) = some r := H
                      have A28 := Aside0.mk A280
                      clear A280
                      by_cases c29 : t492 = t494
                      · rw [if_pos c29] at H
                        have c29b0 : (t492 == t494) = true := beq_iff_eq.mpr c29
                        have c29b1 : (t492 != t494) = false := bne_eq_false_iff_eq.mpr c29
                        clear c29
                        by_cases c30 : t493 = t495
                        · rw [if_pos c30] at H
                          have c30b0 : (t493 == t495) = true := beq_iff_eq.mpr c30
                          have c30b1 : (t493 != t495) = false := bne_eq_false_iff_eq.mpr c30
                          clear c30
                          replace H := Option.bind_eq_some_iff.mp H
                          obtain ⟨t496, A310, H⟩ := H
                          replace H : (some t496) = some r := H
                          have A31 := Aside0.mk A310
                          clear A310
                          obtain rfl := Option.some.inj H
                          go_wp2_with (first | ((with_reducible refine gate_callee (f := 36) rfl ?_); refine goesL_ (some 78) rfl rfl Try.func36 (by kernel_rfl) rfl #[.slice A0 l0.length c0, .int .i64 a1] rfl (by (try simp only [List.map_toArray, List.map_cons, List.map_nil]); first | done | rfl | (simp only [List.length_drop, List.length_take]; rfl)) ?_; (with_reducible refine (span_Rank.calls kj21 _ _ l0 a1 t492 t493 _ ?side1 ?side2 A27.out).mono ?_); (case side1 => repeat (first | exact (Kd.C_below HR0.out HB.out) | (with_reducible refine Kd.C_alloc ?_ _) | (with_reducible refine Kd.C_drewN ?_ _) | (with_reducible refine Kd.C_drew ?_))); (case side2 => exact HC0.out); rintro e w32 ⟨rfl, hb⟩; refine ⟨_, rfl, ?_⟩; have n0_ := Aside0.mk (below_step (by repeat (first | (with_reducible first | exact HB.out | apply below_alloc | apply pw_below_drewN | apply below_drew1) | exact HB.out)) hb); clear HB; have HB := n0_; clear n0_; (try clear hb); (try clear hb2); (try clear hk); (try clear hi)) | ((with_reducible refine gate_callee (f := 37) rfl ?_); refine goesL_ (some 84) rfl rfl Try.func37 (by kernel_rfl) rfl #[.slice A0 l0.length c0, .int .i64 a1] rfl (by (try simp only [List.map_toArray, List.map_cons, List.map_nil]); first | done | rfl | (simp only [List.length_drop, List.length_take]; rfl)) ?_; (with_reducible refine (kimberliteref01_Rank.calls kj21 _ _ l0 a1 t494 t495 _ ?side1 ?side2 A28.out).mono ?_); (case side1 => repeat (first | exact (Kd.C_below HR0.out HB.out) | (with_reducible refine Kd.C_alloc ?_ _) | (with_reducible refine Kd.C_drewN ?_ _) | (with_reducible refine Kd.C_drew ?_))); (case side2 => exact HC0.out); rintro e w33 ⟨rfl, hb⟩; refine ⟨_, rfl, ?_⟩; have n0_ := Aside0.mk (below_step (by repeat (first | (with_reducible first | exact HB.out | apply below_alloc | apply pw_below_drewN | apply below_drew1) | exact HB.out)) hb); clear HB; have HB := n0_; clear n0_; (try clear hb); (try clear hb2); (try clear hk); (try clear hi)) | (go_at_call 16; (with_reducible refine (kimberlitelaw01_alive.calls kj21  t496 _ A31.out).mono ?_); rintro e w34 ⟨rfl, hb⟩; have n0_ := Aside0.mk (below_step (by repeat (first | (with_reducible first | exact HB.out | apply below_alloc | apply pw_below_drewN | apply below_drew1) | exact HB.out)) hb); clear HB; have HB := n0_; clear n0_; (try clear hb); (try clear hb2); (try clear hk); (try clear hi)))
                          go_ret
                          exact ⟨by first | rfl | (simp [errW_none, errW_some] <;> rfl) | (simp [*, errW_none, errW_some] <;> rfl), by repeat (first | (with_reducible first | exact HB.out | apply below_alloc | apply pw_below_drewN | apply below_drew1) | exact HB.out)⟩
                        · rw [if_neg c30] at H
                          have c30b0 : (t493 == t495) = false := beq_eq_false_iff_ne.mpr c30
                          have c30b1 : (t493 != t495) = true := bne_iff_ne.mpr c30
                          obtain rfl := Option.some.inj H
                          go_wp2_with (first | ((with_reducible refine gate_callee (f := 36) rfl ?_); refine goesL_ (some 78) rfl rfl Try.func36 (by kernel_rfl) rfl #[.slice A0 l0.length c0, .int .i64 a1] rfl (by (try simp only [List.map_toArray, List.map_cons, List.map_nil]); first | done | rfl | (simp only [List.length_drop, List.length_take]; rfl)) ?_; (with_reducible refine (span_Rank.calls kj21 _ _ l0 a1 t492 t493 _ ?side1 ?side2 A27.out).mono ?_); (case side1 => repeat (first | exact (Kd.C_below HR0.out HB.out) | (with_reducible refine Kd.C_alloc ?_ _) | (with_reducible refine Kd.C_drewN ?_ _) | (with_reducible refine Kd.C_drew ?_))); (case side2 => exact HC0.out); rintro e w35 ⟨rfl, hb⟩; refine ⟨_, rfl, ?_⟩; have n0_ := Aside0.mk (below_step (by repeat (first | (with_reducible first | exact HB.out | apply below_alloc | apply pw_below_drewN | apply below_drew1) | exact HB.out)) hb); clear HB; have HB := n0_; clear n0_; (try clear hb); (try clear hb2); (try clear hk); (try clear hi)) | ((with_reducible refine gate_callee (f := 37) rfl ?_); refine goesL_ (some 84) rfl rfl Try.func37 (by kernel_rfl) rfl #[.slice A0 l0.length c0, .int .i64 a1] rfl (by (try simp only [List.map_toArray, List.map_cons, List.map_nil]); first | done | rfl | (simp only [List.length_drop, List.length_take]; rfl)) ?_; (with_reducible refine (kimberliteref01_Rank.calls kj21 _ _ l0 a1 t494 t495 _ ?side1 ?side2 A28.out).mono ?_); (case side1 => repeat (first | exact (Kd.C_below HR0.out HB.out) | (with_reducible refine Kd.C_alloc ?_ _) | (with_reducible refine Kd.C_drewN ?_ _) | (with_reducible refine Kd.C_drew ?_))); (case side2 => exact HC0.out); rintro e w36 ⟨rfl, hb⟩; refine ⟨_, rfl, ?_⟩; have n0_ := Aside0.mk (below_step (by repeat (first | (with_reducible first | exact HB.out | apply below_alloc | apply pw_below_drewN | apply below_drew1) | exact HB.out)) hb); clear HB; have HB := n0_; clear n0_; (try clear hb); (try clear hb2); (try clear hk); (try clear hi)))
                          go_ret
                          exact ⟨by first | rfl | (simp [errW_none, errW_some] <;> rfl) | (simp [*, errW_none, errW_some] <;> rfl), by repeat (first | (with_reducible first | exact HB.out | apply below_alloc | apply pw_below_drewN | apply below_drew1) | exact HB.out)⟩
                      · rw [if_neg c29] at H
                        have c29b0 : (t492 == t494) = false := beq_eq_false_iff_ne.mpr c29
                        have c29b1 : (t492 != t494) = true := bne_iff_ne.mpr c29
                        obtain rfl := Option.some.inj H
                        go_wp2_with (first | ((with_reducible refine gate_callee (f := 36) rfl ?_); refine goesL_ (some 78) rfl rfl Try.func36 (by kernel_rfl) rfl #[.slice A0 l0.length c0, .int .i64 a1] rfl (by (try simp only [List.map_toArray, List.map_cons, List.map_nil]); first | done | rfl | (simp only [List.length_drop, List.length_take]; rfl)) ?_; (with_reducible refine (span_Rank.calls kj21 _ _ l0 a1 t492 t493 _ ?side1 ?side2 A27.out).mono ?_); (case side1 => repeat (first | exact (Kd.C_below HR0.out HB.out) | (with_reducible refine Kd.C_alloc ?_ _) | (with_reducible refine Kd.C_drewN ?_ _) | (with_reducible refine Kd.C_drew ?_))); (case side2 => exact HC0.out); rintro e w37 ⟨rfl, hb⟩; refine ⟨_, rfl, ?_⟩; have n0_ := Aside0.mk (below_step (by repeat (first | (with_reducible first | exact HB.out | apply below_alloc | apply pw_below_drewN | apply below_drew1) | exact HB.out)) hb); clear HB; have HB := n0_; clear n0_; (try clear hb); (try clear hb2); (try clear hk); (try clear hi)) | ((with_reducible refine gate_callee (f := 37) rfl ?_); refine goesL_ (some 84) rfl rfl Try.func37 (by kernel_rfl) rfl #[.slice A0 l0.length c0, .int .i64 a1] rfl (by (try simp only [List.map_toArray, List.map_cons, List.map_nil]); first | done | rfl | (simp only [List.length_drop, List.length_take]; rfl)) ?_; (with_reducible refine (kimberliteref01_Rank.calls kj21 _ _ l0 a1 t494 t495 _ ?side1 ?side2 A28.out).mono ?_); (case side1 => repeat (first | exact (Kd.C_below HR0.out HB.out) | (with_reducible refine Kd.C_alloc ?_ _) | (with_reducible refine Kd.C_drewN ?_ _) | (with_reducible refine Kd.C_drew ?_))); (case side2 => exact HC0.out); rintro e w38 ⟨rfl, hb⟩; refine ⟨_, rfl, ?_⟩; have n0_ := Aside0.mk (below_step (by repeat (first | (with_reducible first | exact HB.out | apply below_alloc | apply pw_below_drewN | apply below_drew1) | exact HB.out)) hb); clear HB; have HB := n0_; clear n0_; (try clear hb); (try clear hb2); (try clear hk); (try clear hi)))
                        go_ret
                        exact ⟨by first | rfl | (simp [errW_none, errW_some] <;> rfl) | (simp [*, errW_none, errW_some] <;> rfl), by repeat (first | (with_reducible first | exact HB.out | apply below_alloc | apply pw_below_drewN | apply below_drew1) | exact HB.out)⟩
  · replace c5 := Bool.eq_false_iff.mpr c5
    subst c5
    have H1 : ((kimberlitelaw01_alive.f k).bind fun t479 => (some t479)) = some r := by rw [if_neg (show ¬ (false = true) by decide)] at H; exact H
    clear H
    have H := H1
    clear H1
    replace H := Option.bind_eq_some_iff.mp H
    obtain ⟨t479, A390, H⟩ := H
    replace H : (some t479) = some r := H
    have A39 := Aside0.mk A390
    clear A390
    obtain rfl := Option.some.inj H
    go_enter Try.func6, Try.ntmps6
    go_wp2_with (first | ((with_reducible refine gate_callee (f := 15) rfl ?_); refine goesL_ (some 14) rfl rfl Try.func15 (by kernel_rfl) rfl #[.slice A0 l0.length c0] rfl (by (try simp only [List.map_toArray, List.map_cons, List.map_nil]); first | done | rfl | (simp only [List.length_drop, List.length_take]; rfl)) ?_; (with_reducible refine (kimberlitelaw01_few.calls _ _ l0 false _ ?side1 ?side2 A4.out).mono ?_); (case side1 => repeat (first | exact HR0.out | (with_reducible refine Kd.C_alloc ?_ _) | (with_reducible refine Kd.C_drewN ?_ _) | (with_reducible refine Kd.C_drew ?_))); (case side2 => exact HC0.out); rintro e w' ⟨rfl, ⟨nd, rfl⟩⟩; refine ⟨_, rfl, ?_⟩) | ((with_reducible refine gate_callee (f := 16) rfl ?_); refine goesL_ (some 16) rfl rfl Try.func16 (by kernel_rfl) rfl #[] rfl (by (try simp only [List.map_toArray, List.map_cons, List.map_nil]); first | done | rfl | (simp only [List.length_drop, List.length_take]; rfl)) ?_; (with_reducible refine (kimberlitelaw01_alive.calls k  t479 _ A39.out).mono ?_); rintro e w40 ⟨rfl, hb⟩; refine ⟨_, rfl, ?_⟩; have n0_ := Aside0.mk (below_step (by repeat (first | (with_reducible first | exact HB.out | apply below_alloc | apply pw_below_drewN | apply below_drew1) | exact HB.out)) hb); clear HB; have HB := n0_; clear n0_; (try clear hb); (try clear hb2); (try clear hk); (try clear hi)))
    go_ret
    exact ⟨by first | rfl | (simp [errW_none, errW_some] <;> rfl) | (simp [*, errW_none, errW_some] <;> rfl), by repeat (first | (with_reducible first | exact HB.out | apply below_alloc | apply pw_below_drewN | apply below_drew1) | exact HB.out)⟩

end Go.Proofs.Ytningpmoojnomaa.Pr
