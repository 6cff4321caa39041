/- slices.Clone at []api.Span: the call hands back a new slice that holds the same spans (nil for nil). Condition: at most 8796093022208 spans. -/
import Derived.Test.YtningpmoojnomaaPrx0
import Derived.Lib.SliceRun
namespace Go.Proofs.Ytningpmoojnomaa.Pr
open Go.RowKit Go.Proofs.YtningpmoojnomaaW.PrintWords Go.Proofs.YtningpmoojnomaaW.PrintLast Go.Proofs.YtningpmoojnomaaW.PrintMore
set_option linter.unusedVariables false
set_option linter.unusedSimpArgs false

def clone_Span.f (l0 : List S32) : Option (List S32) := if l0.length ≤ 8796093022208 then some l0 else none

set_option maxHeartbeats 4000000 in
set_option maxRecDepth 100000 in
theorem clone_Span.calls (A0 : Option Addr) (c0 : Nat) (l0 : List S32) (r : List S32) (w : World) (hr0 : Kd.C k32 w A0 l0.length l0) (hc0 : l0.length ≤ c0) (h : clone_Span.f l0 = some r) :
    Calls Try.prog 65 #[.slice A0 l0.length c0] w fun e w' => ∃ v0_ : Value, e = .returned v0_ ∧ Kd.R k32 32 w' w.heap.size (fun _ => True) v0_ r ∧ Below w.heap.size w w' := by
  unfold clone_Span.f at h
  split at h
  · rename_i hlen
    injection h with h
    subst h
    have qT : ∀ (w : World) (a : Option Addr) (n c n' c' : Nat), (binOp .eql 22 (.slice a n c) (.slice none n' c')).run Try.prog w = .ok (.bool a.isNone) w := fun w a n c n' c' => Lib.run_eql_slice_nil w _ _ a n c n' c' Try.underlying22
    rcases A0 with _ | ad
    · have h0 : l0 = [] := by
        rcases l0 with _ | ⟨x, xs⟩
        · rfl
        · obtain ⟨ad, h, _⟩ := hr0.2.2 (by simp)
          cases h
      subst h0
      go_enter Try.func65, Try.ntmps65
      go_wp2
      go_ret
      exact ⟨_, rfl, Kd.R_nil _ _ _ _ _, Below.refl _ _⟩
    · have HR0 := Aside0.mk hr0
      clear hr0
      have HB := Aside0.mk (Below.refl w.heap.size w)
      have hb8 := Aside0.mk hlen
      clear hlen
      go_enter Try.func65, Try.ntmps65
      go_wp2_with (first | ((with_reducible refine gate_dst (N := 5) rfl ?_); refine Kd.R_lit k32 _ 32 ?hg (N := 5) ?hd (xs := ([] : List S32)) (inner := []) (ok := fun _ => True) (okp := fun _ => True) ?hr ?hp (fun _ hk => hk) trivial (Below.refl _ _) (Nat.le_refl _) (by simp) ?_; (case hd => rfl); (case hg => rfl); (case hr => first | (go_simp; done) | (go_simp; rfl)); (case hp => exact Reps.none _ _); intro v1 w1 ho1 hb1 hg1 hn1; clear hg1 hn1; have HO := Aside0.mk (Kd.R_lower ho1 (Nat.le_refl _)); have HB1 := Aside0.mk hb1; clear ho1 hb1; clear HB; obtain ⟨Ao7, co7, eo7⟩ := Kd.R_slice HO.out; subst eo7) | (at_builtin; refine Kd.R_append_rows k32 (Rr := k32.K w) (w0 := w) w.heap.size rfl (.tmp 5) (.tmp 6) 22 32 (.agg #[(.int .i64 0), (.int .i64 0)]) 16 rfl Try.underlying22 info32 rfl (by decide) (by omega) _ ([] : List S32) l0 (some ad) l0.length c0 (fun _ => True) (fun _ => False) rfl rfl HO.out ?aR ?aK (fun _ hk => hk.elim) (fun _ _ => trivial) HB1.out HB1.out.size ?aL ?_; (case aR => exact (Kd.C_below HR0.out HB1.out)); (case aK => (intro x cs hx; exact (k32_open hx) ▸ k32_mkM _ _ _ x)); (case aL => (have := hb8.out; simp; omega)); intro v2 w2 ho2 hb2 hg2 hn2; clear hg2 hn2; rw [List.nil_append] at ho2; have HO2 := Aside0.mk ho2; have HB2 := Aside0.mk hb2; clear ho2 hb2 HO HB1; obtain ⟨Ao8, co8, eo8⟩ := Kd.R_slice HO2.out; subst eo8))
      go_ret
      exact ⟨_, rfl, HO2.out, HB2.out⟩
  · cases h

#print axioms Go.Proofs.Ytningpmoojnomaa.Pr.clone_Span.calls
end Go.Proofs.Ytningpmoojnomaa.Pr
