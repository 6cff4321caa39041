/- span.Has: the call hands back whether some span has the number, or the error. No condition. -/
import Derived.Test.YtningpmoojnomaaPrx0
import Derived.Test.YtningpmoojnomaaPrx5
import Derived.Test.YtningpmoojnomaaExtList
namespace Go.Proofs.Ytningpmoojnomaa.Pr
open Go.RowKit Go.Shelf Go.Proofs.YtningpmoojnomaaW.PrintWords Go.Proofs.YtningpmoojnomaaW.PrintLast Go.Proofs.YtningpmoojnomaaW.PrintMore
set_option linter.unusedVariables false
set_option linter.unusedSimpArgs false

def hasS (x : Int) (s : S32) : Bool := decide (s.f0 ≤ x) && decide (x < s.f1)

set_option maxHeartbeats 4000000 in
theorem has_pred (B : Nat) (x : Int) (w : World) (hB : B < w.heap.size) (hc : w.cell? ⟨B, 0, none⟩ = some (.int .i64 x)) : PredS 74 #[.pointer (some ⟨B, 0, none⟩)] (hasS x) w := by
  intro W s hb
  have hc' : W.cell? ⟨B, 0, none⟩ = some (.int .i64 x) := (hb.cell (p := ⟨B, 0, none⟩) hB).trans hc
  have hB' : B < W.heap.size := Nat.lt_of_lt_of_le hB hb.size
  have HB := Aside0.mk hb
  clear hb hc hB
  have hu32 := Try.underlying32
  unfold hasS
  by_cases h1 : s.f0 ≤ x
  · have hd1 : decide (s.f0 ≤ x) = true := by simpa using h1
    go_enter Try.func74, Try.ntmps74
    go_wp2
    go_ret
    exact ⟨by first | rfl | (rw [hd1]; rfl), HB.out.alloc HB.out.size _⟩
  · have hd1 : decide (s.f0 ≤ x) = false := by simpa using h1
    go_enter Try.func74, Try.ntmps74
    go_wp2
    go_ret
    exact ⟨by first | rfl | (rw [hd1]; rfl), HB.out.alloc HB.out.size _⟩

def span_Has.f (k : Nat) (l0 : List S32) (a1 : Int) : Option (Bool × Int) :=
  (span_Valid.f k l0).bind fun t => if t = true then some (l0.any (hasS a1), 0) else some (false, 2)
theorem span_Has.mono : ∀ a0 a1 k, LeO (span_Has.f k a0 a1) (span_Has.f (k + 1) a0 a1) := by
  intro a0 a1 k
  unfold span_Has.f
  exact LeO.bind (span_Valid.mono _ _) (fun t => LeO.refl _)

set_option maxHeartbeats 4000000 in
theorem span_Has.calls (k : Nat) (A0 : Option Addr) (c0 : Nat) (l0 : List S32) (a1 : Int) (r1 : Bool) (r2 : Int) (w : World) (hr0 : Kd.C k32 w A0 l0.length l0) (hc0 : l0.length ≤ c0) (h : span_Has.f k l0 a1 = some (r1, r2)) :
    Calls Try.prog 30 #[.slice A0 l0.length c0, .int .i64 a1] w fun e w' => e = .returned (.tuple #[.bool r1, .int .i64 r2]) ∧ Below w.heap.size w w' := by
  have hB : Below w.heap.size w (w.alloc (.cells #[.int .i64 a1] 3)) := (Below.refl _ _).alloc (Nat.le_refl _) _
  have HR0 := Aside0.mk (Kd.C_below hr0 hB)
  have HC0 := Aside0.mk hc0
  have HB := Aside0.mk hB
  clear hr0 hc0 hB
  unfold span_Has.f at h
  obtain ⟨t, ht, h⟩ := Option.bind_eq_some_iff.mp h
  have HT := Aside0.mk ht
  clear ht
  cases t with
  | false =>
    rw [if_neg (by simp)] at h
    injection h with h
    injection h with h1 h2
    subst h1 h2
    go_enter Try.func30, Try.ntmps30
    go_wp2_with (go_at_call 23; refine (span_Valid.calls k _ _ l0 false _ HR0.out HC0.out HT.out).mono ?_; rintro e w' ⟨rfl, hb'⟩)
    go_ret2
    exact ⟨rfl, below_then HB.out HB.out.size hb'⟩
  | true =>
    rw [if_pos rfl] at h
    injection h with h
    injection h with h1 h2
    subst h2
    have H1 := Aside0.mk h1
    clear h1
    have HP := Aside0.mk (fun W hb => containsFunc_Span 74 #[.pointer (some ⟨w.heap.size, 0, none⟩)] (hasS a1) (enters_of Try.func74 (by kernel_rfl) rfl) A0 c0 l0 W (Kd.C_below HR0.out hb) (has_pred w.heap.size a1 W (Nat.lt_of_lt_of_le (by simp) hb.size) ((hb.cell (p := ⟨w.heap.size, 0, none⟩) (by simp)).trans (by simp))))
    rw [H1.out] at HP
    go_enter Try.func30, Try.ntmps30
    go_wp2_with (go_at_call 23; refine (span_Valid.calls k _ _ l0 true _ HR0.out HC0.out HT.out).mono ?_; rintro e w' ⟨rfl, hb'⟩)
    go_wp2_with fail
    refine (HP.out _ hb').mono ?_
    rintro e w2 ⟨rfl, hb2⟩
    go_wp2
    go_ret2
    exact ⟨rfl, below_then (below_then HB.out HB.out.size hb') (Nat.le_trans HB.out.size hb'.size) hb2⟩
end Go.Proofs.Ytningpmoojnomaa.Pr
