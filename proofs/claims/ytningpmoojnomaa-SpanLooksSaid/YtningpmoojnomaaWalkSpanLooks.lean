/- The walk of the law SpanLooks out of its plain law. No condition. -/
import Derived.Test.YtningpmoojnomaaPrx33
import Derived.Test.YtningpmoojnomaaArgs
import Derived.Test.YtningpmoojnomaaMath
import Derived.Test.YtningpmoojnomaaAlive
namespace Go.Proofs.Ytningpmoojnomaa.Pr
open Go.RowKit Go.Proofs.YtningpmoojnomaaW.PrintWords Go.Proofs.YtningpmoojnomaaW.PrintLast Go.Proofs.YtningpmoojnomaaW.PrintMore

set_option linter.unusedVariables false
set_option linter.unusedSimpArgs false

def SpanLooks_Pure : Prop := ∀ (l : List S32) (x i : Int), (∀ s ∈ l, okS s) → (Lit.int .i64 x).wf = true → (Lit.int .i64 i).wf = true → ∃ k, kimberlitelaw01_SpanLooks.f k l x i = some true
theorem wf_bound {x : Int} (h : (Lit.int .i64 x).wf = true) : -9223372036854775808 ≤ x ∧ x ≤ 9223372036854775807 := by
  simp only [Lit.wf, Bool.and_eq_true, decide_eq_true_eq] at h
  exact h
theorem SpanLooks_pure : SpanLooks_Pure := by
  intro l x i hl hx hi
  have hx := wf_bound hx
  have hi := wf_bound hi
  refine Ev.rounds ?_
  unfold kimberlitelaw01_SpanLooks.f kimberlitelaw01_few.f
  simp only [Option.bind_some]
  by_cases h140 : (l.length : Int) ≤ 140
  · simp only [h140, decide_true, if_true, ↓reduceIte]
    have hn : l.length ≤ 9223372036854775807 := by omega
    refine Ev.bind (spanHas_ev l x hn) (Ev.bind (refHas_ev l x hn) ?_)
    simp only [bne_self_eq_false, Bool.false_eq_true, if_false, ↓reduceIte]
    refine Ev.step (f := fun k => (span_Size.f k l).bind fun bt484 => ((kimberliteref01_Size.f k l).bind fun bt486 => (if bt484.1 = bt486.1 then (kimberlitelaw01_SpanLooks.j1 k l x i (bt484.2 != bt486.2)) else (kimberlitelaw01_SpanLooks.j1 k l x i true)))) (fun k => by simp only [kimberlitelaw01_SpanLooks.j0]; simp) ?_
    refine Ev.bind (spanSize_ev l hn) (Ev.bind (refSize_ev l hn) ?_)
    simp only [bne_self_eq_false, if_true, ↓reduceIte]
    refine Ev.step (f := fun k => (span_Nth.f k l i).bind fun bt488 => ((kimberliteref01_Nth.f k l i).bind fun bt490 => (if bt488.1 = bt490.1 then (kimberlitelaw01_SpanLooks.j2 k l x (bt488.2 != bt490.2)) else (kimberlitelaw01_SpanLooks.j2 k l x true)))) (fun k => by simp only [kimberlitelaw01_SpanLooks.j1]; simp) ?_
    refine Ev.bind (spanNth_ev l i hn hi.2) (Ev.bind (refNth_ev l i hn hi.2) ?_)
    simp only [bne_self_eq_false, if_true, ↓reduceIte]
    refine Ev.step (f := fun k => (span_Rank.f k l x).bind fun bt492 => ((kimberliteref01_Rank.f k l x).bind fun bt494 => (if bt492.1 = bt494.1 then (if bt492.2 = bt494.2 then ((kimberlitelaw01_alive.f k).bind fun t496 => (some t496)) else (some false)) else (some false)))) (fun k => by simp only [kimberlitelaw01_SpanLooks.j2]; simp) ?_
    refine Ev.bind (spanRank_ev l x hn) (Ev.bind (refRank_ev l x hn) ?_)
    simp only [if_true, ↓reduceIte]
    exact Ev.bind alive_ev (Ev.now _)
  · simp only [h140, decide_false, Bool.false_eq_true, if_false, ↓reduceIte]
    exact Ev.bind alive_ev (Ev.now _)
theorem SpanLooks_walk {W : World} (a0 : Option Addr) (cap0 : Nat) (l0 : List S32) (c0 : l0.length ≤ cap0) (hr0 : Kd.C k32 W a0 l0.length l0) (w0 : ∀ s ∈ l0, okS s) (a1 : Int) (w1 : (Lit.int .i64 a1).wf = true) (a2 : Int) (w2 : (Lit.int .i64 a2).wf = true) :
    Calls Try.prog 6 #[.slice a0 l0.length cap0, .int .i64 a1, .int .i64 a2] W fun e w' => e = .returned (.bool true) ∧ Below W.heap.size W w' := by
  obtain ⟨k, h⟩ := SpanLooks_pure l0 a1 a2 w0 w1 w2
  exact kimberlitelaw01_SpanLooks.calls k _ _ l0 a1 a2 true W hr0 c0 h
end Go.Proofs.Ytningpmoojnomaa.Pr
