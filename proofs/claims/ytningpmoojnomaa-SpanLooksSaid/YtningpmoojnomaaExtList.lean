/- slices.IndexFunc and slices.ContainsFunc at []api.Span for whatever predicate, and span.listed: the calls hand back the first index, whether some span meets the predicate, and the error of a list of spans. No condition. -/
import Derived.Test.YtningpmoojnomaaPrx0
import Derived.Test.YtningpmoojnomaaPrx2
import Derived.Shelf.Abstract
namespace Go.Proofs.Ytningpmoojnomaa.Pr
open Go.RowKit Go.Shelf Go.Proofs.YtningpmoojnomaaW.PrintWords Go.Proofs.YtningpmoojnomaaW.PrintLast Go.Proofs.YtningpmoojnomaaW.PrintMore
set_option linter.unusedVariables false
set_option linter.unusedSimpArgs false

/-- What is asked of a predicate on spans: it tells p x, and keeps what lay there. -/
def PredS (g : Nat) (lb : Array Value) (p : S32 → Bool) (w : World) : Prop :=
  ∀ (W : World) (x : S32), Below w.heap.size w W → Calls Try.prog g (#[.agg #[.int .i64 x.f0, .int .i64 x.f1]] ++ lb) W fun e w' => e = .returned (.bool (p x)) ∧ Below w.heap.size w w'

def idxS {α : Type} (p : α → Bool) (l : List α) : Int := match l.findIdx? p with
  | some i => (i : Int)
  | none => -1
theorem idxS_hit {α : Type} (p : α → Bool) (l : List α) (z : α) (k : Nat) (hk : k < l.length) (hp : p (l.getD k z) = true) (hb : ∀ j, j < k → p (l.getD j z) = false) : idxS p l = k := by
  unfold idxS
  rw [List.findIdx?_eq_some_iff_getElem.2 ⟨hk, by simpa [List.getD_eq_getElem?_getD, List.getElem?_eq_getElem hk] using hp, fun j hj => by
    have := hb j hj
    rw [List.getD_eq_getElem?_getD, List.getElem?_eq_getElem (by omega)] at this
    simpa using this⟩]
theorem idxS_miss {α : Type} (p : α → Bool) (l : List α) (z : α) (hb : ∀ j, j < l.length → p (l.getD j z) = false) : idxS p l = -1 := by
  unfold idxS
  rw [List.findIdx?_eq_none_iff.2 (fun x hx => by
    obtain ⟨j, hj, rfl⟩ := List.mem_iff_getElem.1 hx
    have := hb j hj
    rw [List.getD_eq_getElem?_getD, List.getElem?_eq_getElem hj] at this
    simpa using this)]
theorem idxS_any {α : Type} (p : α → Bool) (l : List α) : decide (0 ≤ idxS p l) = l.any p := by
  unfold idxS
  rcases h : l.findIdx? p with _ | i
  · have := List.findIdx?_eq_none_iff.1 h
    simp
    simpa using this
  · obtain ⟨hi, hp, _⟩ := List.findIdx?_eq_some_iff_getElem.1 h
    simp
    exact ⟨_, List.getElem_mem hi, hp⟩

set_option maxHeartbeats 1000000 in
set_option maxRecDepth 100000 in
theorem indexFunc_Span (g : Nat) (lb : Array Value) (p : S32 → Bool) (eg : ∀ args w, (callFunc g args).run Try.prog w = .ok (.enter g args) w) (A0 : Option Addr) (c0 : Nat) (l0 : List S32) (w : World) (hr0 : Kd.C k32 w A0 l0.length l0) (hp : PredS g lb p w) :
    Calls Try.prog 96 #[.slice A0 l0.length c0, .func (.func g) #[] lb] w fun e w' => e = .returned (.int .i64 (idxS p l0)) ∧ Below w.heap.size w w' := by
  have hm : l0.length ≤ 9223372036854775807 := hr0.2.1
  have HR0 := Aside0.mk hr0
  have HP := Aside0.mk hp
  have HM := Aside0.mk hm
  clear hr0 hp hm
  have hu32 := Try.underlying32
  go_enter Try.func96, Try.ntmps96
  go_wp2
  go_loopg [5, 8] l0.length (fun gg _ s8 wr => ∃ kk : Nat, kk ≤ l0.length ∧ l0.length - kk ≤ gg ∧ s8 = .int .i64 kk ∧ Aside0 (Below w.heap.size w wr) ∧ Aside0 (∀ j, j < kk → p (l0.getD j z32) = false))
  case atStart => exact ⟨0, Nat.zero_le _, by omega, rfl, ⟨Below.refl _ w⟩, ⟨fun j hj => absurd hj (Nat.not_lt_zero _)⟩⟩
  case round =>
    obtain ⟨kk, hkk, hg, rfl, HB, HA⟩ := hrel
    have hm2 := HM.out
    by_cases hlt : kk < l0.length
    · have hltz : (kk : Int) < (l0.length : Int) := by omega
      obtain ⟨ad, e, hx0, hx1⟩ := at_T32 (Kd.C_below HR0.out HB.out) (kk : Int) (by omega) hltz
      subst e
      have hcall := HP.out wr (l0.getD kk z32) HB.out
      have er : rd_T32 l0 (kk : Int) = l0.getD kk z32 := by unfold rd_T32; rw [Int.toNat_natCast]
      rw [er] at hx0 hx1
      rw [Int.toNat_natCast] at hx0 hx1
      clear er
      generalize hy : l0.getD kk z32 = y at hx0 hx1 hcall
      have HY := Aside0.mk hy
      clear hy
      cases hq : p y with
      | true =>
        rw [hq] at hcall
        have HQ := Aside0.mk hq
        clear hq
        go_wp2_with fail
        refine hcall.mono ?_
        rintro e w' ⟨rfl, hb'⟩
        go_wp2
        go_ret
        exact ⟨by rw [idxS_hit p l0 z32 kk hlt (by rw [HY.out]; exact HQ.out) HA.out]; rfl, hb'⟩
      | false =>
        rw [hq] at hcall
        have HQ := Aside0.mk hq
        clear hq
        go_wp2_with fail
        refine hcall.mono ?_
        rintro e w' ⟨rfl, hb'⟩
        go_wp2
        go_roundg (l0.length - (kk + 1))
        case measure => omega
        case rel =>
          refine ⟨kk + 1, by omega, by omega, by go_num, ⟨hb'⟩, ⟨fun j hj => ?_⟩⟩
          by_cases e : j = kk
          · subst e
            rw [HY.out]; exact HQ.out
          · exact HA.out j (by omega)
    · have hltz : ¬ (kk : Int) < (l0.length : Int) := by omega
      go_wp2
      go_ret
      exact ⟨by rw [idxS_miss p l0 z32 (fun j hj => HA.out j (by omega))]; rfl, HB.out⟩

set_option maxHeartbeats 1000000 in
theorem containsFunc_Span (g : Nat) (lb : Array Value) (p : S32 → Bool) (eg : ∀ args w, (callFunc g args).run Try.prog w = .ok (.enter g args) w) (A0 : Option Addr) (c0 : Nat) (l0 : List S32) (w : World) (hr0 : Kd.C k32 w A0 l0.length l0) (hp : PredS g lb p w) :
    Calls Try.prog 73 #[.slice A0 l0.length c0, .func (.func g) #[] lb] w fun e w' => e = .returned (.bool (l0.any p)) ∧ Below w.heap.size w w' := by
  rw [← idxS_any]
  have HC := Aside0.mk (fun W => indexFunc_Span g lb p eg A0 c0 l0 W)
  go_enter Try.func73, Try.ntmps73
  go_wp2_with (go_at_call 96; refine (HC.out _ hr0 hp).mono ?_; rintro e w' ⟨rfl, hb'⟩)
  go_ret
  exact ⟨rfl, hb'⟩

def goodS (x : S32) : Bool := decide (-1099511627776 ≤ x.f0) && (decide (x.f0 < x.f1) && decide (x.f1 ≤ 1099511627776))
theorem goodS_f (x : S32) : span_valid.f x.f0 x.f1 = some (goodS x) := by
  unfold span_valid.f goodS
  split
  · split
    · simp [*]
    · simp [*]
  · simp [*]

set_option maxHeartbeats 1000000 in
theorem listed_pred (w : World) : PredS 92 #[] (fun x => !goodS x) w := by
  intro W x hb
  have hu32 := Try.underlying32
  have HB := Aside0.mk hb
  clear hb
  go_enter Try.func92, Try.ntmps92
  have HC := Aside0.mk (fun W => span_valid.calls x.f0 x.f1 (goodS x) W (goodS_f x))
  go_wp2_with (go_at_call 70; refine (HC.out _).mono ?_; rintro e w' ⟨rfl, hb'⟩)
  go_ret
  exact ⟨rfl, below_then (HB.out.alloc HB.out.size _) (by have := HB.out.size; simp; omega) hb'⟩

def span_listed.f (l0 : List S32) : Option Int := if l0.length > 128 then some 3 else if l0.any (fun x => !goodS x) then some 2 else some 0

set_option maxHeartbeats 4000000 in
theorem span_listed.calls (A0 : Option Addr) (c0 : Nat) (l0 : List S32) (r : Int) (w : World) (hr0 : Kd.C k32 w A0 l0.length l0) (hc0 : l0.length ≤ c0) (h : span_listed.f l0 = some r) :
    Calls Try.prog 64 #[.slice A0 l0.length c0] w fun e w' => e = .returned (.int .i64 r) ∧ Below w.heap.size w w' := by
  have hm : l0.length ≤ 9223372036854775807 := hr0.2.1
  have HC := Aside0.mk (fun W hr hp => containsFunc_Span 92 #[] (fun x => !goodS x) (enters_of Try.func92 (by kernel_rfl) rfl) A0 c0 l0 W hr hp)
  have HP := Aside0.mk (listed_pred)
  unfold span_listed.f at h
  split at h
  · rename_i hlt
    injection h with h
    subst h
    have hd : decide ((128 : Int) < (l0.length : Int)) = true := by simp; omega
    have hd2 : (128 : Int) < (l0.length : Int) := by omega
    go_enter Try.func64, Try.ntmps64
    go_wp2
    go_ret
    exact ⟨rfl, Below.refl _ _⟩
  · rename_i hlt
    have hd2 : ¬ (128 : Int) < (l0.length : Int) := by omega
    split at h
    · rename_i hany
      injection h with h
      subst h
      have HA := Aside0.mk hany
      clear hany
      go_enter Try.func64, Try.ntmps64
      go_wp2_with (go_at_call 73; refine (HC.out _ hr0 (HP.out _)).mono ?_; rw [HA.out]; rintro e w' ⟨rfl, hb'⟩)
      go_ret
      exact ⟨rfl, hb'⟩
    · rename_i hany
      injection h with h
      subst h
      have HA := Aside0.mk (Bool.eq_false_iff.2 hany)
      clear hany
      go_enter Try.func64, Try.ntmps64
      go_wp2_with (go_at_call 73; refine (HC.out _ hr0 (HP.out _)).mono ?_; rw [HA.out]; rintro e w' ⟨rfl, hb'⟩)
      go_ret
      exact ⟨rfl, hb'⟩
end Go.Proofs.Ytningpmoojnomaa.Pr
