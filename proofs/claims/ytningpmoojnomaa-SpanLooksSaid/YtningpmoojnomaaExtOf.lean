/- span.Of: the call hands back what the plain function span_Of.f says: the spans are sorted by Lo as Go's own sort does, and joined. No condition. -/
import Derived.Test.YtningpmoojnomaaPrx0
import Derived.Test.YtningpmoojnomaaPrx3
import Derived.Test.YtningpmoojnomaaExtClone
import Derived.Test.YtningpmoojnomaaExtList
import Derived.Test.YtningpmoojnomaaBridge
import Derived.Test.YtningpmoojnomaaShelf
namespace Go.Proofs.Ytningpmoojnomaa.Pr
open Go.RowKit Go.Sort Go.Shelf Go.Lib Go.Proofs.YtningpmoojnomaaW.PrintWords Go.Proofs.YtningpmoojnomaaW.PrintLast Go.Proofs.YtningpmoojnomaaW.PrintMore
set_option linter.unusedVariables false
set_option linter.unusedSimpArgs false

def cmpLo (x y : S32) : Int := Lib.compareInt x.f0 y.f0
def sortLo (l : List S32) : List S32 := (pdq (ltOf cmpLo) l.toArray 0 l.length (Lib.bitLen l.length) true true).toList
theorem ltOf_cmpLo (x y : S32) : ltOf cmpLo x y = decide (x.f0 < y.f0) := by
  unfold ltOf cmpLo Lib.compareInt
  by_cases h : x.f0 < y.f0
  · simp [h]
  · by_cases h2 : x.f0 > y.f0
    · simp [h, h2]
    · simp [h, h2]
theorem swo_cmpLo : SWO (ltOf cmpLo) where
  irrefl := fun x => by rw [ltOf_cmpLo]; simp
  trans := fun x y z h1 h2 => by rw [ltOf_cmpLo] at *; simp at *; omega
  ntrans := fun x y z h1 h2 => by rw [ltOf_cmpLo] at *; simp at *; omega
theorem sortLo_sorts (l : List S32) : PermIn 0 l.toArray.size l.toArray (sortLo l).toArray ∧ SortedIn (ltOf cmpLo) 0 l.toArray.size (sortLo l).toArray := by
  have h := pdq_sorts (ltOf cmpLo) swo_cmpLo l.toArray 0 l.toArray.size (Lib.bitLen l.toArray.size) true true (Nat.zero_le _) (Nat.le_refl _) (Or.inl rfl)
  unfold sortLo
  rw [Array.toArray_toList]
  exact h
theorem sortLo_perm (l : List S32) : (sortLo l).Perm l := by
  obtain ⟨⟨hs, _, hp⟩, _⟩ := sortLo_sorts l
  have e1 : ((sortLo l).toArray.extract 0 l.toArray.size).toList = sortLo l := by
    rw [← hs]
    simp
  have e2 : (l.toArray.extract 0 l.toArray.size).toList = l := by simp
  rw [e1, e2] at hp
  exact hp
theorem sortLo_length (l : List S32) : (sortLo l).length = l.length := (sortLo_perm l).length_eq
theorem sortLo_pairwise (l : List S32) : (sortLo l).Pairwise (fun a b => a.f0 ≤ b.f0) := by
  obtain ⟨_, hs⟩ := sortLo_sorts l
  rw [List.pairwise_iff_getElem]
  intro i j hi hj hij
  have := hs i j (Nat.zero_le _) hij (by rw [sortLo_length] at hj; simpa using hj)
  rw [ltOf_cmpLo] at this
  rw [getElem!_pos (sortLo l).toArray i (by simpa using hi), getElem!_pos (sortLo l).toArray j (by simpa using hj)] at this
  simp at this
  exact this

set_option maxHeartbeats 1000000 in
theorem closure67 (x y : S32) (W : World) : Calls Try.prog 67 #[.agg #[.int .i64 x.f0, .int .i64 x.f1], .agg #[.int .i64 y.f0, .int .i64 y.f1]] W fun e w' => e = .returned (.int .i64 (cmpLo x y)) ∧ ∃ q os', w' = grow (W.drewN q) os' := by
  have HC := Aside0.mk (fun W' => Try.cmp_Compare_int x.f0 y.f0 W')
  unfold cmpLo
  generalize Lib.compareInt x.f0 y.f0 = r at HC ⊢
  go_enter Try.func67, Try.ntmps67
  go_wp2_with (go_at_call 68; refine (HC.out _).mono ?_; rintro e w' ⟨rfl, rfl⟩)
  go_ret
  exact ⟨rfl, 0, _, by rw [alloc_eq_grow, alloc_eq_grow, grow_grow]; rfl⟩

theorem cmpLays67 (blk off size : Nat) (w : World) : CmpLays Try.prog 67 #[] encS 2 cmpLo blk off size w :=
  fun _ _ _ _ x y => closure67 x y _

/-- slices.SortFunc on a row of the call's own. -/
theorem sortFunc_own (W : World) (base g n cap : Nat) (ok : Nat → Prop) (xs : List S32) (h : Kd.R k32 32 W base ok (.slice (some ⟨g, 0, none⟩) n cap) xs) (hlen : xs.length < 4611686018427387904) :
    Calls Try.prog 66 #[.slice (some ⟨g, 0, none⟩) n cap, .func (.func 67) #[] #[]] W fun e w' => e = .returned (.tuple #[]) ∧ Kd.R k32 32 w' base ok (.slice (some ⟨g, 0, none⟩) n cap) (sortLo xs) ∧ W.grownBy w' (some g) := by
  obtain ⟨rfl, hH, hg, hbase, hput⟩ := own_bridge h
  have eg : ∀ args w, (callFunc 67 args).run Try.prog w = .ok (.enter 67 args) w := enters_of Try.func67 (by kernel_rfl) rfl
  have hcon := AnyQ.slices_SortFunc_eq Try.sort66 2 Try.isAgg32 Try.sizeOf32 encS (fun _ => rfl) (fun x v hv => by simp [encS] at hv; rcases hv with rfl | rfl <;> rfl) cmpLo swo_cmpLo 67 #[] g 0 cap xs.toArray W eg (cmpLays67 g 0 _ W) hH hg (by simpa using hlen)
  change Calls Try.prog 66 _ _ _ at hcon
  refine hcon.mono ?_
  rintro e w' ⟨rfl, m, os, rfl⟩
  have := hput m os (sortLo xs) (sortLo_length xs)
  unfold sortLo at this ⊢
  rw [Array.toArray_toList] at this
  exact ⟨rfl, by simpa using this.1, by simpa using this.2⟩
theorem sortFunc_none (W : World) (p : Option Addr) (cap : Nat) :
    Calls Try.prog 66 #[.slice p 0 cap, .func (.func 67) #[] #[]] W fun e w' => e = .returned (.tuple #[]) ∧ w' = W :=
  AnyF.slices_SortFunc_none Try.sort66 p cap _ W

/-- .. whether nil or not. -/
theorem sortFunc_any (W : World) (base : Nat) (ok : Nat → Prop) (v : Value) (xs : List S32) (h : Kd.R k32 32 W base ok v xs) (hlen : xs.length < 4611686018427387904) :
    Calls Try.prog 66 #[v, .func (.func 67) #[] #[]] W fun e w' => e = .returned (.tuple #[]) ∧ Kd.R k32 32 w' base ok v (sortLo xs) ∧ W.grownBy w' v.ownBlock := by
  rcases h.2 with ⟨inner, ⟨hi, hh⟩, hr⟩
  rcases hh with ⟨rfl, hn⟩ | ⟨g, cap, cur, rfl, _⟩
  · obtain rfl : xs = [] := List.eq_nil_of_length_eq_zero hn
    have e0 : sortLo [] = [] := List.eq_nil_of_length_eq_zero (by rw [sortLo_length]; rfl)
    rw [e0]
    refine (sortFunc_none W none 0).mono ?_
    rintro e w' ⟨rfl, rfl⟩
    exact ⟨rfl, h, World.grownBy.refl _ _⟩
  · exact sortFunc_own W base g xs.length cap ok xs h hlen

def span_Of.f (k : Nat) (l0 : List S32) : Option (List S32 × Int) :=
  (span_listed.f l0).bind fun e => if e = 0 then (clone_Span.f l0).bind fun o => (span_joined.f k (sortLo o)).bind fun j => some (j, 0) else some ([], e)
theorem span_Of.mono : ∀ a0 k, LeO (span_Of.f k a0) (span_Of.f (k + 1) a0) := by
  intro a0 k
  unfold span_Of.f
  refine LeO.bind (LeO.refl _) (fun t => LeO.ite (LeO.bind (LeO.refl _) (fun o => LeO.bind (span_joined.mono _ _) (fun _ => LeO.refl _))) (LeO.refl _))

set_option maxHeartbeats 4000000 in
set_option maxRecDepth 100000 in
theorem span_Of.calls (k : Nat) (A0 : Option Addr) (c0 : Nat) (l0 : List S32) (r1 : List S32) (r2 : Int) (w : World) (hr0 : Kd.C k32 w A0 l0.length l0) (hc0 : l0.length ≤ c0) (h : span_Of.f k l0 = some (r1, r2)) :
    Calls Try.prog 19 #[.slice A0 l0.length c0] w fun e w' => ∃ v0_ : Value, e = .returned (.tuple #[v0_, .int .i64 r2]) ∧ Kd.R k32 32 w' w.heap.size (fun _ => True) v0_ r1 ∧ Below w.heap.size w w' := by
  have hm : l0.length ≤ 9223372036854775807 := hr0.2.1
  have HR0 := Aside0.mk hr0
  have HC0 := Aside0.mk hc0
  have HM := Aside0.mk hm
  clear hr0 hc0 hm
  unfold span_Of.f at h
  obtain ⟨t, ht, h⟩ := Option.bind_eq_some_iff.mp h
  have HT := Aside0.mk ht
  clear ht
  by_cases h0 : t = 0
  · rw [if_pos h0] at h
    subst h0
    obtain ⟨o, ho, h⟩ := Option.bind_eq_some_iff.mp h
    obtain ⟨j, hj, h⟩ := Option.bind_eq_some_iff.mp h
    simp at h
    obtain ⟨rfl, rfl⟩ := h
    have HO := Aside0.mk ho
    have eo : o = l0 ∧ l0.length ≤ 8796093022208 := by
      unfold clone_Span.f at ho
      split at ho
      · rename_i hl
        injection ho with ho
        exact ⟨ho.symm, hl⟩
      · cases ho
    obtain ⟨rfl, hl⟩ := eo
    have HJ := Aside0.mk hj
    have HL := Aside0.mk hl
    clear ho hj hl
    go_enter Try.func19, Try.ntmps19
    go_wp2_with (go_at_call 64; refine (span_listed.calls _ _ o 0 _ HR0.out HC0.out HT.out).mono ?_; rintro e w1 ⟨rfl, hb1⟩)
    have HB1 := Aside0.mk hb1
    clear hb1
    go_wp2_with (go_at_call 65; refine (clone_Span.calls _ _ o o _ (Kd.C_below HR0.out HB1.out) HC0.out HO.out).mono ?_; rintro e w2 ⟨v, rfl, hr2, hb2⟩)
    have HB2 := Aside0.mk (below_then HB1.out HB1.out.size hb2)
    have HR2 := Aside0.mk (Kd.R_lower hr2 HB1.out.size)
    clear hb2 hr2 HB1
    have HS := Aside0.mk (sortFunc_any _ _ _ _ _ HR2.out (by have := HL.out; omega))
    obtain ⟨A2, c2, e2⟩ := Kd.R_slice HR2.out
    subst e2
    go_wp2_with (go_at_call 66; refine HS.out.mono ?_; rintro e w3 ⟨rfl, hr3, hg3⟩)
    have HB3 := Aside0.mk (HB2.out.grown hg3 HB2.out.size (fun k hk => Kd.R_base HR2.out k hk))
    have hC := fun W h1 h2 => span_joined.calls k A2 c2 (sortLo o) j W h1 h2 HJ.out
    have hr := Kd.R_reads' hr3
    rw [sortLo_length] at hC hr
    have HC := Aside0.mk hC
    clear hC
    have HRR := Aside0.mk hr
    clear hr
    go_wp2_with (go_at_call 69; refine (HC.out _ HRR.out.2.2 HRR.out.2.1).mono ?_; rintro e w4 ⟨v4, rfl, hr4, hb4⟩; obtain ⟨A4, c4, e4⟩ := Kd.R_slice hr4; subst e4)
    go_ret2
    exact ⟨_, rfl, Kd.R_lower hr4 HB3.out.size, below_then HB3.out HB3.out.size hb4⟩
  · rw [if_neg h0] at h
    injection h with h
    injection h with h1 h2
    subst h1 h2
    have hn : (t == 0) = false := by simpa using h0
    have hn2 : (t != 0) = true := by simpa using h0
    go_enter Try.func19, Try.ntmps19
    go_wp2_with (go_at_call 64; refine (span_listed.calls _ _ l0 t _ HR0.out HC0.out HT.out).mono ?_; rintro e w1 ⟨rfl, hb1⟩)
    go_ret2
    exact ⟨_, rfl, Kd.R_nil _ _ _ _ _, hb1⟩
end Go.Proofs.Ytningpmoojnomaa.Pr
