/- What the proof of the law needs, trimmed and merged by wip/pack.py out of the texts YtningpmoojnomaaWalkSpanMembers, YtningpmoojnomaaRowSpanMembers. No condition. -/
import Derived.Test.YtningpmoojnomaaRows
import Derived.WalkKit
import Derived.ProofKit
import Derived.OpenShut
import Derived.ShutString
import Derived.ChangeOld
import Derived.Below
import Derived.SizedLaws
import Derived.Test.YtningpmoojnomaaKSpanMembers0
import Derived.Test.YtningpmoojnomaaKSpanMembers1
import Derived.Test.YtningpmoojnomaaKSpanMembers2
import Derived.Test.YtningpmoojnomaaKSpanMembers3
import Derived.Test.YtningpmoojnomaaKSpanMembers4
import Derived.Test.YtningpmoojnomaaKSpanMembers5
import Derived.Test.YtningpmoojnomaaKSpanMembers6
section
namespace Go.Proofs.Ytningpmoojnomaa.Pr
open Go.RowKit Go.Proofs.YtningpmoojnomaaW.PrintWords Go.Proofs.YtningpmoojnomaaW.PrintLast Go.Proofs.YtningpmoojnomaaW.PrintMore
attribute [local go_sem] max2_int min2_int max_two min_two
set_option linter.unusedVariables false
set_option linter.unusedSimpArgs false
set_option maxHeartbeats 64000000 in
set_option maxRecDepth 100000 in
theorem SpanMembers_walk {W : World} (a0 : Option Addr) (cap0 : Nat) (l0 : List S32) (c0 : l0.length ≤ cap0) (hr0 : Kd.C k32 W a0 l0.length l0) (w0 : ∀ s ∈ l0, okS s) (a1 : Option Addr) (cap1 : Nat) (l1 : List S32) (c1 : l1.length ≤ cap1) (hr1 : Kd.C k32 W a1 l1.length l1) (w1 : ∀ s ∈ l1, okS s) (x : Int) (bx : (Lit.int .i64 x).wf = true) (y : Int) (by_ : (Lit.int .i64 y).wf = true) (r : Int) (br : (Lit.int .i64 r).wf = true) :
    Calls Try.prog 14 #[.slice a0 l0.length cap0, .slice a1 l1.length cap1, .int .i64 x, .int .i64 y, .int .i64 r] W fun e w' => e = .returned (.bool true) ∧ Below W.heap.size W w' := by
  obtain ⟨k0, k1, a, b, u, i, s, n, p, q, ins, hs0, hs1, hva, f1, f2, f3, f4, h1, h2, h3, h4, h5, h6, h7, h8, h9⟩ := memb_facts l0 l1 x hr0.2.1 hr1.2.1
  have S0 := Aside0.mk hs0
  have S1 := Aside0.mk hs1
  have VA := Aside0.mk hva
  have F1 := Aside0.mk f1
  have F2 := Aside0.mk f2
  have F3 := Aside0.mk f3
  have F4 := Aside0.mk f4
  have Xa := Aside0.mk h1
  have Xb := Aside0.mk h2
  have Xu := Aside0.mk h3
  have Xi := Aside0.mk h4
  have Xs := Aside0.mk h5
  have Xn := Aside0.mk h6
  have PI := Aside0.mk h7
  have IN := Aside0.mk h8
  have PM := Aside0.mk h9
  have HC_l0 := Aside0.mk hr0
  have HC_l1 := Aside0.mk hr1
  have HP_l0 := Aside0.mk c0
  have HP_l1 := Aside0.mk c1
  have HB := Aside0.mk (Below.refl W.heap.size W)
  clear hr0 hr1 c0 c1 w0 w1 bx by_ br hs0 hs1 hva f1 f2 f3 f4 h1 h2 h3 h4 h5 h6 h7 h8 h9
  go_enter Try.func14, Try.ntmps14
  go_wp2_with (go_at_call 56; with_reducible refine (kimberlitelaw01_sets.calls k0 _ _ l0 a _ HC_l0.out HP_l0.out S0.out).mono ?_; rintro e w1 ⟨v1, rfl, hr1, hb1⟩; obtain ⟨A1, c1, e1⟩ := Kd.R_slice hr1; subst e1)
  replace HC_l0 := Aside0.mk (Kd.C_below HC_l0.out hb1)
  replace HC_l1 := Aside0.mk (Kd.C_below HC_l1.out hb1)
  replace HB := Aside0.mk (below_then HB.out HB.out.size hb1)
  clear hb1
  have HC_a := Aside0.mk (Kd.R_reads' hr1).2.2
  have HP_a := Aside0.mk (Kd.R_reads' hr1).2.1
  clear hr1
  go_wp2_with (go_at_call 56; with_reducible refine (kimberlitelaw01_sets.calls k1 _ _ l1 b _ HC_l1.out HP_l1.out S1.out).mono ?_; rintro e w2 ⟨v2, rfl, hr2, hb2⟩; obtain ⟨A2, c2, e2⟩ := Kd.R_slice hr2; subst e2)
  replace HC_l0 := Aside0.mk (Kd.C_below HC_l0.out hb2)
  replace HC_l1 := Aside0.mk (Kd.C_below HC_l1.out hb2)
  replace HC_a := Aside0.mk (Kd.C_below HC_a.out hb2)
  replace HB := Aside0.mk (below_then HB.out HB.out.size hb2)
  clear hb2
  have HC_b := Aside0.mk (Kd.R_reads' hr2).2.2
  have HP_b := Aside0.mk (Kd.R_reads' hr2).2.1
  clear hr2
  clear HC_l0 HP_l0
  clear HC_l1 HP_l1
  go_wp2_with (go_at_call 50; with_reducible refine (span_Union.calls _ _ a _ _ b u 0 _ HC_a.out HP_a.out HC_b.out HP_b.out F1.out).mono ?_; rintro e w3 ⟨v3, rfl, hr3, hb3⟩; obtain ⟨A3, c3, e3⟩ := Kd.R_slice hr3; subst e3)
  replace HC_a := Aside0.mk (Kd.C_below HC_a.out hb3)
  replace HC_b := Aside0.mk (Kd.C_below HC_b.out hb3)
  replace HB := Aside0.mk (below_then HB.out HB.out.size hb3)
  clear hb3
  have HC_u := Aside0.mk (Kd.R_reads' hr3).2.2
  have HP_u := Aside0.mk (Kd.R_reads' hr3).2.1
  clear hr3
  go_wp2_with (go_at_call 52; with_reducible refine (span_Intersect.calls _ _ a _ _ b i 0 _ HC_a.out HP_a.out HC_b.out HP_b.out F2.out).mono ?_; rintro e w4 ⟨v4, rfl, hr4, hb4⟩; obtain ⟨A4, c4, e4⟩ := Kd.R_slice hr4; subst e4)
  replace HC_a := Aside0.mk (Kd.C_below HC_a.out hb4)
  replace HC_b := Aside0.mk (Kd.C_below HC_b.out hb4)
  replace HC_u := Aside0.mk (Kd.C_below HC_u.out hb4)
  replace HB := Aside0.mk (below_then HB.out HB.out.size hb4)
  clear hb4
  have HC_i := Aside0.mk (Kd.R_reads' hr4).2.2
  have HP_i := Aside0.mk (Kd.R_reads' hr4).2.1
  clear hr4
  go_wp2_with (go_at_call 53; with_reducible refine (span_Subtract.calls _ _ a _ _ b s 0 _ HC_a.out HP_a.out HC_b.out HP_b.out F3.out).mono ?_; rintro e w5 ⟨v5, rfl, hr5, hb5⟩; obtain ⟨A5, c5, e5⟩ := Kd.R_slice hr5; subst e5)
  replace HC_a := Aside0.mk (Kd.C_below HC_a.out hb5)
  replace HC_b := Aside0.mk (Kd.C_below HC_b.out hb5)
  replace HC_u := Aside0.mk (Kd.C_below HC_u.out hb5)
  replace HC_i := Aside0.mk (Kd.C_below HC_i.out hb5)
  replace HB := Aside0.mk (below_then HB.out HB.out.size hb5)
  clear hb5
  have HC_s := Aside0.mk (Kd.R_reads' hr5).2.2
  have HP_s := Aside0.mk (Kd.R_reads' hr5).2.1
  clear hr5
  go_upto_region 6 with (go_at_call 54; with_reducible refine (span_Not.calls _ _ a n 0 _ HC_a.out HP_a.out F4.out).mono ?_; rintro e w6 ⟨v6, rfl, hr6, hb6⟩; obtain ⟨A6, c6, e6⟩ := Kd.R_slice hr6; subst e6)
  replace HC_a := Aside0.mk (Kd.C_below HC_a.out hb6)
  replace HC_b := Aside0.mk (Kd.C_below HC_b.out hb6)
  replace HC_u := Aside0.mk (Kd.C_below HC_u.out hb6)
  replace HC_i := Aside0.mk (Kd.C_below HC_i.out hb6)
  replace HC_s := Aside0.mk (Kd.C_below HC_s.out hb6)
  replace HB := Aside0.mk (below_then HB.out HB.out.size hb6)
  clear hb6
  have HC_n := Aside0.mk (Kd.R_reads' hr6).2.2
  have HP_n := Aside0.mk (Kd.R_reads' hr6).2.1
  clear hr6
  (try simp only [Act.put, List.setIfInBounds_toArray, List.set_cons_zero, List.set_cons_succ])
  go_cut [21] (fun v21 wc => v21 = .bool ins ∧ Aside0 (Kd.C k32 wc A1 (a).length (a)) ∧ Aside0 (Kd.C k32 wc A2 (b).length (b)) ∧ Aside0 (Kd.C k32 wc A3 (u).length (u)) ∧ Aside0 (Kd.C k32 wc A4 (i).length (i)) ∧ Aside0 (Kd.C k32 wc A5 (s).length (s)) ∧ Aside0 (Kd.C k32 wc A6 (n).length (n)) ∧ Aside0 (Below W.heap.size W wc))
  case first =>
    as_aux_lemma =>
    by_cases c1 : -1099511627776 ≤ x
    · by_cases c2 : x < 1099511627776
      · go_wp2
        go_meet
        case rel => exact ⟨(by rw [IN.out, decide_eq_true (show -1099511627776 ≤ x by omega), decide_eq_true (show x < 1099511627776 by omega)]; first | rfl | simp [*]), HC_a, HC_b, HC_u, HC_i, HC_s, HC_n, HB⟩
      · go_wp2
        go_meet
        case rel => exact ⟨(by rw [IN.out, decide_eq_true (show -1099511627776 ≤ x by omega), decide_eq_false (show ¬ x < 1099511627776 by omega)]; first | rfl | simp [*]), HC_a, HC_b, HC_u, HC_i, HC_s, HC_n, HB⟩
    · go_wp2
      go_meet
      case rel => exact ⟨(by rw [IN.out, decide_eq_false (show ¬ -1099511627776 ≤ x by omega)]; first | rfl | simp [*]), HC_a, HC_b, HC_u, HC_i, HC_s, HC_n, HB⟩
  case rest =>
    as_aux_lemma =>
    clear HB HC_a HC_b HC_u HC_i HC_s HC_n
    obtain ⟨rfl, HC_a, HC_b, HC_u, HC_i, HC_s, HC_n, HB⟩ := hcut
    go_upto_region 7 with (fail)
    (try simp only [Act.put, List.setIfInBounds_toArray, List.set_cons_zero, List.set_cons_succ])
    go_cut [126] (fun v126 wc => v126 = .bool false ∧ Aside0 (Kd.C k32 wc A1 (a).length (a)) ∧ Aside0 (Below W.heap.size W wc))
    case first =>
      as_aux_lemma =>
      cases p with
      | true =>
        cases q with
        | true =>
          cases ins with
          | true =>
            go_wp2_with (go_at_call 61; with_reducible refine (has_at _ _ u x _ _ HC_u.out HP_u.out Xu.out).mono ?_; rintro e w7 ⟨rfl, hb7⟩)
            replace HC_a := Aside0.mk (Kd.C_below HC_a.out hb7)
            replace HC_b := Aside0.mk (Kd.C_below HC_b.out hb7)
            replace HC_u := Aside0.mk (Kd.C_below HC_u.out hb7)
            replace HC_i := Aside0.mk (Kd.C_below HC_i.out hb7)
            replace HC_s := Aside0.mk (Kd.C_below HC_s.out hb7)
            replace HC_n := Aside0.mk (Kd.C_below HC_n.out hb7)
            replace HB := Aside0.mk (below_then HB.out HB.out.size hb7)
            clear hb7
            go_wp2_with (go_at_call 61; with_reducible refine (has_at _ _ a x _ _ HC_a.out HP_a.out Xa.out).mono ?_; rintro e w8 ⟨rfl, hb8⟩)
            replace HC_a := Aside0.mk (Kd.C_below HC_a.out hb8)
            replace HC_b := Aside0.mk (Kd.C_below HC_b.out hb8)
            replace HC_u := Aside0.mk (Kd.C_below HC_u.out hb8)
            replace HC_i := Aside0.mk (Kd.C_below HC_i.out hb8)
            replace HC_s := Aside0.mk (Kd.C_below HC_s.out hb8)
            replace HC_n := Aside0.mk (Kd.C_below HC_n.out hb8)
            replace HB := Aside0.mk (below_then HB.out HB.out.size hb8)
            clear hb8
            go_wp2_with (go_at_call 61; with_reducible refine (has_at _ _ i x _ _ HC_i.out HP_i.out Xi.out).mono ?_; rintro e w9 ⟨rfl, hb9⟩)
            replace HC_a := Aside0.mk (Kd.C_below HC_a.out hb9)
            replace HC_b := Aside0.mk (Kd.C_below HC_b.out hb9)
            replace HC_u := Aside0.mk (Kd.C_below HC_u.out hb9)
            replace HC_i := Aside0.mk (Kd.C_below HC_i.out hb9)
            replace HC_s := Aside0.mk (Kd.C_below HC_s.out hb9)
            replace HC_n := Aside0.mk (Kd.C_below HC_n.out hb9)
            replace HB := Aside0.mk (below_then HB.out HB.out.size hb9)
            clear hb9
            go_wp2_with (go_at_call 61; with_reducible refine (has_at _ _ a x _ _ HC_a.out HP_a.out Xa.out).mono ?_; rintro e w10 ⟨rfl, hb10⟩)
            replace HC_a := Aside0.mk (Kd.C_below HC_a.out hb10)
            replace HC_b := Aside0.mk (Kd.C_below HC_b.out hb10)
            replace HC_u := Aside0.mk (Kd.C_below HC_u.out hb10)
            replace HC_i := Aside0.mk (Kd.C_below HC_i.out hb10)
            replace HC_s := Aside0.mk (Kd.C_below HC_s.out hb10)
            replace HC_n := Aside0.mk (Kd.C_below HC_n.out hb10)
            replace HB := Aside0.mk (below_then HB.out HB.out.size hb10)
            clear hb10
            go_wp2_with (go_at_call 61; with_reducible refine (has_at _ _ b x _ _ HC_b.out HP_b.out Xb.out).mono ?_; rintro e w11 ⟨rfl, hb11⟩)
            replace HC_a := Aside0.mk (Kd.C_below HC_a.out hb11)
            replace HC_b := Aside0.mk (Kd.C_below HC_b.out hb11)
            replace HC_u := Aside0.mk (Kd.C_below HC_u.out hb11)
            replace HC_i := Aside0.mk (Kd.C_below HC_i.out hb11)
            replace HC_s := Aside0.mk (Kd.C_below HC_s.out hb11)
            replace HC_n := Aside0.mk (Kd.C_below HC_n.out hb11)
            replace HB := Aside0.mk (below_then HB.out HB.out.size hb11)
            clear hb11
            go_wp2_with (go_at_call 61; with_reducible refine (has_at _ _ s x _ _ HC_s.out HP_s.out Xs.out).mono ?_; rintro e w12 ⟨rfl, hb12⟩)
            replace HC_a := Aside0.mk (Kd.C_below HC_a.out hb12)
            replace HC_b := Aside0.mk (Kd.C_below HC_b.out hb12)
            replace HC_u := Aside0.mk (Kd.C_below HC_u.out hb12)
            replace HC_i := Aside0.mk (Kd.C_below HC_i.out hb12)
            replace HC_s := Aside0.mk (Kd.C_below HC_s.out hb12)
            replace HC_n := Aside0.mk (Kd.C_below HC_n.out hb12)
            replace HB := Aside0.mk (below_then HB.out HB.out.size hb12)
            clear hb12
            go_wp2_with (go_at_call 61; with_reducible refine (has_at _ _ a x _ _ HC_a.out HP_a.out Xa.out).mono ?_; rintro e w13 ⟨rfl, hb13⟩)
            replace HC_a := Aside0.mk (Kd.C_below HC_a.out hb13)
            replace HC_b := Aside0.mk (Kd.C_below HC_b.out hb13)
            replace HC_u := Aside0.mk (Kd.C_below HC_u.out hb13)
            replace HC_i := Aside0.mk (Kd.C_below HC_i.out hb13)
            replace HC_s := Aside0.mk (Kd.C_below HC_s.out hb13)
            replace HC_n := Aside0.mk (Kd.C_below HC_n.out hb13)
            replace HB := Aside0.mk (below_then HB.out HB.out.size hb13)
            clear hb13
            go_wp2_with (go_at_call 61; with_reducible refine (has_at _ _ b x _ _ HC_b.out HP_b.out Xb.out).mono ?_; rintro e w14 ⟨rfl, hb14⟩)
            replace HC_a := Aside0.mk (Kd.C_below HC_a.out hb14)
            replace HC_b := Aside0.mk (Kd.C_below HC_b.out hb14)
            replace HC_u := Aside0.mk (Kd.C_below HC_u.out hb14)
            replace HC_i := Aside0.mk (Kd.C_below HC_i.out hb14)
            replace HC_s := Aside0.mk (Kd.C_below HC_s.out hb14)
            replace HC_n := Aside0.mk (Kd.C_below HC_n.out hb14)
            replace HB := Aside0.mk (below_then HB.out HB.out.size hb14)
            clear hb14
            go_wp2_with (go_at_call 61; with_reducible refine (has_at _ _ n x _ _ HC_n.out HP_n.out Xn.out).mono ?_; rintro e w15 ⟨rfl, hb15⟩)
            replace HC_a := Aside0.mk (Kd.C_below HC_a.out hb15)
            replace HC_b := Aside0.mk (Kd.C_below HC_b.out hb15)
            replace HC_u := Aside0.mk (Kd.C_below HC_u.out hb15)
            replace HC_i := Aside0.mk (Kd.C_below HC_i.out hb15)
            replace HC_s := Aside0.mk (Kd.C_below HC_s.out hb15)
            replace HC_n := Aside0.mk (Kd.C_below HC_n.out hb15)
            replace HB := Aside0.mk (below_then HB.out HB.out.size hb15)
            clear hb15
            go_wp2_with (go_at_call 61; with_reducible refine (has_at _ _ a x _ _ HC_a.out HP_a.out Xa.out).mono ?_; rintro e w16 ⟨rfl, hb16⟩)
            replace HC_a := Aside0.mk (Kd.C_below HC_a.out hb16)
            replace HC_b := Aside0.mk (Kd.C_below HC_b.out hb16)
            replace HC_u := Aside0.mk (Kd.C_below HC_u.out hb16)
            replace HC_i := Aside0.mk (Kd.C_below HC_i.out hb16)
            replace HC_s := Aside0.mk (Kd.C_below HC_s.out hb16)
            replace HC_n := Aside0.mk (Kd.C_below HC_n.out hb16)
            replace HB := Aside0.mk (below_then HB.out HB.out.size hb16)
            clear hb16
            go_wp2
            go_meet
            case rel => exact ⟨rfl, HC_a, HB⟩
          | false =>
            exact absurd (PI.out rfl) (by decide)
        | false =>
          cases ins with
          | true =>
            go_wp2_with (go_at_call 61; with_reducible refine (has_at _ _ u x _ _ HC_u.out HP_u.out Xu.out).mono ?_; rintro e w17 ⟨rfl, hb17⟩)
            replace HC_a := Aside0.mk (Kd.C_below HC_a.out hb17)
            replace HC_b := Aside0.mk (Kd.C_below HC_b.out hb17)
            replace HC_u := Aside0.mk (Kd.C_below HC_u.out hb17)
            replace HC_i := Aside0.mk (Kd.C_below HC_i.out hb17)
            replace HC_s := Aside0.mk (Kd.C_below HC_s.out hb17)
            replace HC_n := Aside0.mk (Kd.C_below HC_n.out hb17)
            replace HB := Aside0.mk (below_then HB.out HB.out.size hb17)
            clear hb17
            go_wp2_with (go_at_call 61; with_reducible refine (has_at _ _ a x _ _ HC_a.out HP_a.out Xa.out).mono ?_; rintro e w18 ⟨rfl, hb18⟩)
            replace HC_a := Aside0.mk (Kd.C_below HC_a.out hb18)
            replace HC_b := Aside0.mk (Kd.C_below HC_b.out hb18)
            replace HC_u := Aside0.mk (Kd.C_below HC_u.out hb18)
            replace HC_i := Aside0.mk (Kd.C_below HC_i.out hb18)
            replace HC_s := Aside0.mk (Kd.C_below HC_s.out hb18)
            replace HC_n := Aside0.mk (Kd.C_below HC_n.out hb18)
            replace HB := Aside0.mk (below_then HB.out HB.out.size hb18)
            clear hb18
            go_wp2_with (go_at_call 61; with_reducible refine (has_at _ _ i x _ _ HC_i.out HP_i.out Xi.out).mono ?_; rintro e w19 ⟨rfl, hb19⟩)
            replace HC_a := Aside0.mk (Kd.C_below HC_a.out hb19)
            replace HC_b := Aside0.mk (Kd.C_below HC_b.out hb19)
            replace HC_u := Aside0.mk (Kd.C_below HC_u.out hb19)
            replace HC_i := Aside0.mk (Kd.C_below HC_i.out hb19)
            replace HC_s := Aside0.mk (Kd.C_below HC_s.out hb19)
            replace HC_n := Aside0.mk (Kd.C_below HC_n.out hb19)
            replace HB := Aside0.mk (below_then HB.out HB.out.size hb19)
            clear hb19
            go_wp2_with (go_at_call 61; with_reducible refine (has_at _ _ a x _ _ HC_a.out HP_a.out Xa.out).mono ?_; rintro e w20 ⟨rfl, hb20⟩)
            replace HC_a := Aside0.mk (Kd.C_below HC_a.out hb20)
            replace HC_b := Aside0.mk (Kd.C_below HC_b.out hb20)
            replace HC_u := Aside0.mk (Kd.C_below HC_u.out hb20)
            replace HC_i := Aside0.mk (Kd.C_below HC_i.out hb20)
            replace HC_s := Aside0.mk (Kd.C_below HC_s.out hb20)
            replace HC_n := Aside0.mk (Kd.C_below HC_n.out hb20)
            replace HB := Aside0.mk (below_then HB.out HB.out.size hb20)
            clear hb20
            go_wp2_with (go_at_call 61; with_reducible refine (has_at _ _ b x _ _ HC_b.out HP_b.out Xb.out).mono ?_; rintro e w21 ⟨rfl, hb21⟩)
            replace HC_a := Aside0.mk (Kd.C_below HC_a.out hb21)
            replace HC_b := Aside0.mk (Kd.C_below HC_b.out hb21)
            replace HC_u := Aside0.mk (Kd.C_below HC_u.out hb21)
            replace HC_i := Aside0.mk (Kd.C_below HC_i.out hb21)
            replace HC_s := Aside0.mk (Kd.C_below HC_s.out hb21)
            replace HC_n := Aside0.mk (Kd.C_below HC_n.out hb21)
            replace HB := Aside0.mk (below_then HB.out HB.out.size hb21)
            clear hb21
            go_wp2_with (go_at_call 61; with_reducible refine (has_at _ _ s x _ _ HC_s.out HP_s.out Xs.out).mono ?_; rintro e w22 ⟨rfl, hb22⟩)
            replace HC_a := Aside0.mk (Kd.C_below HC_a.out hb22)
            replace HC_b := Aside0.mk (Kd.C_below HC_b.out hb22)
            replace HC_u := Aside0.mk (Kd.C_below HC_u.out hb22)
            replace HC_i := Aside0.mk (Kd.C_below HC_i.out hb22)
            replace HC_s := Aside0.mk (Kd.C_below HC_s.out hb22)
            replace HC_n := Aside0.mk (Kd.C_below HC_n.out hb22)
            replace HB := Aside0.mk (below_then HB.out HB.out.size hb22)
            clear hb22
            go_wp2_with (go_at_call 61; with_reducible refine (has_at _ _ a x _ _ HC_a.out HP_a.out Xa.out).mono ?_; rintro e w23 ⟨rfl, hb23⟩)
            replace HC_a := Aside0.mk (Kd.C_below HC_a.out hb23)
            replace HC_b := Aside0.mk (Kd.C_below HC_b.out hb23)
            replace HC_u := Aside0.mk (Kd.C_below HC_u.out hb23)
            replace HC_i := Aside0.mk (Kd.C_below HC_i.out hb23)
            replace HC_s := Aside0.mk (Kd.C_below HC_s.out hb23)
            replace HC_n := Aside0.mk (Kd.C_below HC_n.out hb23)
            replace HB := Aside0.mk (below_then HB.out HB.out.size hb23)
            clear hb23
            go_wp2_with (go_at_call 61; with_reducible refine (has_at _ _ b x _ _ HC_b.out HP_b.out Xb.out).mono ?_; rintro e w24 ⟨rfl, hb24⟩)
            replace HC_a := Aside0.mk (Kd.C_below HC_a.out hb24)
            replace HC_b := Aside0.mk (Kd.C_below HC_b.out hb24)
            replace HC_u := Aside0.mk (Kd.C_below HC_u.out hb24)
            replace HC_i := Aside0.mk (Kd.C_below HC_i.out hb24)
            replace HC_s := Aside0.mk (Kd.C_below HC_s.out hb24)
            replace HC_n := Aside0.mk (Kd.C_below HC_n.out hb24)
            replace HB := Aside0.mk (below_then HB.out HB.out.size hb24)
            clear hb24
            go_wp2_with (go_at_call 61; with_reducible refine (has_at _ _ n x _ _ HC_n.out HP_n.out Xn.out).mono ?_; rintro e w25 ⟨rfl, hb25⟩)
            replace HC_a := Aside0.mk (Kd.C_below HC_a.out hb25)
            replace HC_b := Aside0.mk (Kd.C_below HC_b.out hb25)
            replace HC_u := Aside0.mk (Kd.C_below HC_u.out hb25)
            replace HC_i := Aside0.mk (Kd.C_below HC_i.out hb25)
            replace HC_s := Aside0.mk (Kd.C_below HC_s.out hb25)
            replace HC_n := Aside0.mk (Kd.C_below HC_n.out hb25)
            replace HB := Aside0.mk (below_then HB.out HB.out.size hb25)
            clear hb25
            go_wp2_with (go_at_call 61; with_reducible refine (has_at _ _ a x _ _ HC_a.out HP_a.out Xa.out).mono ?_; rintro e w26 ⟨rfl, hb26⟩)
            replace HC_a := Aside0.mk (Kd.C_below HC_a.out hb26)
            replace HC_b := Aside0.mk (Kd.C_below HC_b.out hb26)
            replace HC_u := Aside0.mk (Kd.C_below HC_u.out hb26)
            replace HC_i := Aside0.mk (Kd.C_below HC_i.out hb26)
            replace HC_s := Aside0.mk (Kd.C_below HC_s.out hb26)
            replace HC_n := Aside0.mk (Kd.C_below HC_n.out hb26)
            replace HB := Aside0.mk (below_then HB.out HB.out.size hb26)
            clear hb26
            go_wp2
            go_meet
            case rel => exact ⟨rfl, HC_a, HB⟩
          | false =>
            exact absurd (PI.out rfl) (by decide)
      | false =>
        cases q with
        | true =>
          cases ins with
          | true =>
            go_wp2_with (go_at_call 61; with_reducible refine (has_at _ _ u x _ _ HC_u.out HP_u.out Xu.out).mono ?_; rintro e w27 ⟨rfl, hb27⟩)
            replace HC_a := Aside0.mk (Kd.C_below HC_a.out hb27)
            replace HC_b := Aside0.mk (Kd.C_below HC_b.out hb27)
            replace HC_u := Aside0.mk (Kd.C_below HC_u.out hb27)
            replace HC_i := Aside0.mk (Kd.C_below HC_i.out hb27)
            replace HC_s := Aside0.mk (Kd.C_below HC_s.out hb27)
            replace HC_n := Aside0.mk (Kd.C_below HC_n.out hb27)
            replace HB := Aside0.mk (below_then HB.out HB.out.size hb27)
            clear hb27
            go_wp2_with (go_at_call 61; with_reducible refine (has_at _ _ a x _ _ HC_a.out HP_a.out Xa.out).mono ?_; rintro e w28 ⟨rfl, hb28⟩)
            replace HC_a := Aside0.mk (Kd.C_below HC_a.out hb28)
            replace HC_b := Aside0.mk (Kd.C_below HC_b.out hb28)
            replace HC_u := Aside0.mk (Kd.C_below HC_u.out hb28)
            replace HC_i := Aside0.mk (Kd.C_below HC_i.out hb28)
            replace HC_s := Aside0.mk (Kd.C_below HC_s.out hb28)
            replace HC_n := Aside0.mk (Kd.C_below HC_n.out hb28)
            replace HB := Aside0.mk (below_then HB.out HB.out.size hb28)
            clear hb28
            go_wp2_with (go_at_call 61; with_reducible refine (has_at _ _ b x _ _ HC_b.out HP_b.out Xb.out).mono ?_; rintro e w29 ⟨rfl, hb29⟩)
            replace HC_a := Aside0.mk (Kd.C_below HC_a.out hb29)
            replace HC_b := Aside0.mk (Kd.C_below HC_b.out hb29)
            replace HC_u := Aside0.mk (Kd.C_below HC_u.out hb29)
            replace HC_i := Aside0.mk (Kd.C_below HC_i.out hb29)
            replace HC_s := Aside0.mk (Kd.C_below HC_s.out hb29)
            replace HC_n := Aside0.mk (Kd.C_below HC_n.out hb29)
            replace HB := Aside0.mk (below_then HB.out HB.out.size hb29)
            clear hb29
            go_wp2_with (go_at_call 61; with_reducible refine (has_at _ _ i x _ _ HC_i.out HP_i.out Xi.out).mono ?_; rintro e w30 ⟨rfl, hb30⟩)
            replace HC_a := Aside0.mk (Kd.C_below HC_a.out hb30)
            replace HC_b := Aside0.mk (Kd.C_below HC_b.out hb30)
            replace HC_u := Aside0.mk (Kd.C_below HC_u.out hb30)
            replace HC_i := Aside0.mk (Kd.C_below HC_i.out hb30)
            replace HC_s := Aside0.mk (Kd.C_below HC_s.out hb30)
            replace HC_n := Aside0.mk (Kd.C_below HC_n.out hb30)
            replace HB := Aside0.mk (below_then HB.out HB.out.size hb30)
            clear hb30
            go_wp2_with (go_at_call 61; with_reducible refine (has_at _ _ a x _ _ HC_a.out HP_a.out Xa.out).mono ?_; rintro e w31 ⟨rfl, hb31⟩)
            replace HC_a := Aside0.mk (Kd.C_below HC_a.out hb31)
            replace HC_b := Aside0.mk (Kd.C_below HC_b.out hb31)
            replace HC_u := Aside0.mk (Kd.C_below HC_u.out hb31)
            replace HC_i := Aside0.mk (Kd.C_below HC_i.out hb31)
            replace HC_s := Aside0.mk (Kd.C_below HC_s.out hb31)
            replace HC_n := Aside0.mk (Kd.C_below HC_n.out hb31)
            replace HB := Aside0.mk (below_then HB.out HB.out.size hb31)
            clear hb31
            go_wp2_with (go_at_call 61; with_reducible refine (has_at _ _ s x _ _ HC_s.out HP_s.out Xs.out).mono ?_; rintro e w32 ⟨rfl, hb32⟩)
            replace HC_a := Aside0.mk (Kd.C_below HC_a.out hb32)
            replace HC_b := Aside0.mk (Kd.C_below HC_b.out hb32)
            replace HC_u := Aside0.mk (Kd.C_below HC_u.out hb32)
            replace HC_i := Aside0.mk (Kd.C_below HC_i.out hb32)
            replace HC_s := Aside0.mk (Kd.C_below HC_s.out hb32)
            replace HC_n := Aside0.mk (Kd.C_below HC_n.out hb32)
            replace HB := Aside0.mk (below_then HB.out HB.out.size hb32)
            clear hb32
            go_wp2_with (go_at_call 61; with_reducible refine (has_at _ _ a x _ _ HC_a.out HP_a.out Xa.out).mono ?_; rintro e w33 ⟨rfl, hb33⟩)
            replace HC_a := Aside0.mk (Kd.C_below HC_a.out hb33)
            replace HC_b := Aside0.mk (Kd.C_below HC_b.out hb33)
            replace HC_u := Aside0.mk (Kd.C_below HC_u.out hb33)
            replace HC_i := Aside0.mk (Kd.C_below HC_i.out hb33)
            replace HC_s := Aside0.mk (Kd.C_below HC_s.out hb33)
            replace HC_n := Aside0.mk (Kd.C_below HC_n.out hb33)
            replace HB := Aside0.mk (below_then HB.out HB.out.size hb33)
            clear hb33
            go_wp2_with (go_at_call 61; with_reducible refine (has_at _ _ n x _ _ HC_n.out HP_n.out Xn.out).mono ?_; rintro e w34 ⟨rfl, hb34⟩)
            replace HC_a := Aside0.mk (Kd.C_below HC_a.out hb34)
            replace HC_b := Aside0.mk (Kd.C_below HC_b.out hb34)
            replace HC_u := Aside0.mk (Kd.C_below HC_u.out hb34)
            replace HC_i := Aside0.mk (Kd.C_below HC_i.out hb34)
            replace HC_s := Aside0.mk (Kd.C_below HC_s.out hb34)
            replace HC_n := Aside0.mk (Kd.C_below HC_n.out hb34)
            replace HB := Aside0.mk (below_then HB.out HB.out.size hb34)
            clear hb34
            go_wp2_with (go_at_call 61; with_reducible refine (has_at _ _ a x _ _ HC_a.out HP_a.out Xa.out).mono ?_; rintro e w35 ⟨rfl, hb35⟩)
            replace HC_a := Aside0.mk (Kd.C_below HC_a.out hb35)
            replace HC_b := Aside0.mk (Kd.C_below HC_b.out hb35)
            replace HC_u := Aside0.mk (Kd.C_below HC_u.out hb35)
            replace HC_i := Aside0.mk (Kd.C_below HC_i.out hb35)
            replace HC_s := Aside0.mk (Kd.C_below HC_s.out hb35)
            replace HC_n := Aside0.mk (Kd.C_below HC_n.out hb35)
            replace HB := Aside0.mk (below_then HB.out HB.out.size hb35)
            clear hb35
            go_wp2
            go_meet
            case rel => exact ⟨rfl, HC_a, HB⟩
          | false =>
            go_wp2_with (go_at_call 61; with_reducible refine (has_at _ _ u x _ _ HC_u.out HP_u.out Xu.out).mono ?_; rintro e w36 ⟨rfl, hb36⟩)
            replace HC_a := Aside0.mk (Kd.C_below HC_a.out hb36)
            replace HC_b := Aside0.mk (Kd.C_below HC_b.out hb36)
            replace HC_u := Aside0.mk (Kd.C_below HC_u.out hb36)
            replace HC_i := Aside0.mk (Kd.C_below HC_i.out hb36)
            replace HC_s := Aside0.mk (Kd.C_below HC_s.out hb36)
            replace HC_n := Aside0.mk (Kd.C_below HC_n.out hb36)
            replace HB := Aside0.mk (below_then HB.out HB.out.size hb36)
            clear hb36
            go_wp2_with (go_at_call 61; with_reducible refine (has_at _ _ a x _ _ HC_a.out HP_a.out Xa.out).mono ?_; rintro e w37 ⟨rfl, hb37⟩)
            replace HC_a := Aside0.mk (Kd.C_below HC_a.out hb37)
            replace HC_b := Aside0.mk (Kd.C_below HC_b.out hb37)
            replace HC_u := Aside0.mk (Kd.C_below HC_u.out hb37)
            replace HC_i := Aside0.mk (Kd.C_below HC_i.out hb37)
            replace HC_s := Aside0.mk (Kd.C_below HC_s.out hb37)
            replace HC_n := Aside0.mk (Kd.C_below HC_n.out hb37)
            replace HB := Aside0.mk (below_then HB.out HB.out.size hb37)
            clear hb37
            go_wp2_with (go_at_call 61; with_reducible refine (has_at _ _ b x _ _ HC_b.out HP_b.out Xb.out).mono ?_; rintro e w38 ⟨rfl, hb38⟩)
            replace HC_a := Aside0.mk (Kd.C_below HC_a.out hb38)
            replace HC_b := Aside0.mk (Kd.C_below HC_b.out hb38)
            replace HC_u := Aside0.mk (Kd.C_below HC_u.out hb38)
            replace HC_i := Aside0.mk (Kd.C_below HC_i.out hb38)
            replace HC_s := Aside0.mk (Kd.C_below HC_s.out hb38)
            replace HC_n := Aside0.mk (Kd.C_below HC_n.out hb38)
            replace HB := Aside0.mk (below_then HB.out HB.out.size hb38)
            clear hb38
            go_wp2_with (go_at_call 61; with_reducible refine (has_at _ _ i x _ _ HC_i.out HP_i.out Xi.out).mono ?_; rintro e w39 ⟨rfl, hb39⟩)
            replace HC_a := Aside0.mk (Kd.C_below HC_a.out hb39)
            replace HC_b := Aside0.mk (Kd.C_below HC_b.out hb39)
            replace HC_u := Aside0.mk (Kd.C_below HC_u.out hb39)
            replace HC_i := Aside0.mk (Kd.C_below HC_i.out hb39)
            replace HC_s := Aside0.mk (Kd.C_below HC_s.out hb39)
            replace HC_n := Aside0.mk (Kd.C_below HC_n.out hb39)
            replace HB := Aside0.mk (below_then HB.out HB.out.size hb39)
            clear hb39
            go_wp2_with (go_at_call 61; with_reducible refine (has_at _ _ a x _ _ HC_a.out HP_a.out Xa.out).mono ?_; rintro e w40 ⟨rfl, hb40⟩)
            replace HC_a := Aside0.mk (Kd.C_below HC_a.out hb40)
            replace HC_b := Aside0.mk (Kd.C_below HC_b.out hb40)
            replace HC_u := Aside0.mk (Kd.C_below HC_u.out hb40)
            replace HC_i := Aside0.mk (Kd.C_below HC_i.out hb40)
            replace HC_s := Aside0.mk (Kd.C_below HC_s.out hb40)
            replace HC_n := Aside0.mk (Kd.C_below HC_n.out hb40)
            replace HB := Aside0.mk (below_then HB.out HB.out.size hb40)
            clear hb40
            go_wp2_with (go_at_call 61; with_reducible refine (has_at _ _ s x _ _ HC_s.out HP_s.out Xs.out).mono ?_; rintro e w41 ⟨rfl, hb41⟩)
            replace HC_a := Aside0.mk (Kd.C_below HC_a.out hb41)
            replace HC_b := Aside0.mk (Kd.C_below HC_b.out hb41)
            replace HC_u := Aside0.mk (Kd.C_below HC_u.out hb41)
            replace HC_i := Aside0.mk (Kd.C_below HC_i.out hb41)
            replace HC_s := Aside0.mk (Kd.C_below HC_s.out hb41)
            replace HC_n := Aside0.mk (Kd.C_below HC_n.out hb41)
            replace HB := Aside0.mk (below_then HB.out HB.out.size hb41)
            clear hb41
            go_wp2_with (go_at_call 61; with_reducible refine (has_at _ _ a x _ _ HC_a.out HP_a.out Xa.out).mono ?_; rintro e w42 ⟨rfl, hb42⟩)
            replace HC_a := Aside0.mk (Kd.C_below HC_a.out hb42)
            replace HC_b := Aside0.mk (Kd.C_below HC_b.out hb42)
            replace HC_u := Aside0.mk (Kd.C_below HC_u.out hb42)
            replace HC_i := Aside0.mk (Kd.C_below HC_i.out hb42)
            replace HC_s := Aside0.mk (Kd.C_below HC_s.out hb42)
            replace HC_n := Aside0.mk (Kd.C_below HC_n.out hb42)
            replace HB := Aside0.mk (below_then HB.out HB.out.size hb42)
            clear hb42
            go_wp2_with (go_at_call 61; with_reducible refine (has_at _ _ n x _ _ HC_n.out HP_n.out Xn.out).mono ?_; rintro e w43 ⟨rfl, hb43⟩)
            replace HC_a := Aside0.mk (Kd.C_below HC_a.out hb43)
            replace HC_b := Aside0.mk (Kd.C_below HC_b.out hb43)
            replace HC_u := Aside0.mk (Kd.C_below HC_u.out hb43)
            replace HC_i := Aside0.mk (Kd.C_below HC_i.out hb43)
            replace HC_s := Aside0.mk (Kd.C_below HC_s.out hb43)
            replace HC_n := Aside0.mk (Kd.C_below HC_n.out hb43)
            replace HB := Aside0.mk (below_then HB.out HB.out.size hb43)
            clear hb43
            go_wp2
            go_meet
            case rel => exact ⟨rfl, HC_a, HB⟩
        | false =>
          cases ins with
          | true =>
            go_wp2_with (go_at_call 61; with_reducible refine (has_at _ _ u x _ _ HC_u.out HP_u.out Xu.out).mono ?_; rintro e w44 ⟨rfl, hb44⟩)
            replace HC_a := Aside0.mk (Kd.C_below HC_a.out hb44)
            replace HC_b := Aside0.mk (Kd.C_below HC_b.out hb44)
            replace HC_u := Aside0.mk (Kd.C_below HC_u.out hb44)
            replace HC_i := Aside0.mk (Kd.C_below HC_i.out hb44)
            replace HC_s := Aside0.mk (Kd.C_below HC_s.out hb44)
            replace HC_n := Aside0.mk (Kd.C_below HC_n.out hb44)
            replace HB := Aside0.mk (below_then HB.out HB.out.size hb44)
            clear hb44
            go_wp2_with (go_at_call 61; with_reducible refine (has_at _ _ a x _ _ HC_a.out HP_a.out Xa.out).mono ?_; rintro e w45 ⟨rfl, hb45⟩)
            replace HC_a := Aside0.mk (Kd.C_below HC_a.out hb45)
            replace HC_b := Aside0.mk (Kd.C_below HC_b.out hb45)
            replace HC_u := Aside0.mk (Kd.C_below HC_u.out hb45)
            replace HC_i := Aside0.mk (Kd.C_below HC_i.out hb45)
            replace HC_s := Aside0.mk (Kd.C_below HC_s.out hb45)
            replace HC_n := Aside0.mk (Kd.C_below HC_n.out hb45)
            replace HB := Aside0.mk (below_then HB.out HB.out.size hb45)
            clear hb45
            go_wp2_with (go_at_call 61; with_reducible refine (has_at _ _ b x _ _ HC_b.out HP_b.out Xb.out).mono ?_; rintro e w46 ⟨rfl, hb46⟩)
            replace HC_a := Aside0.mk (Kd.C_below HC_a.out hb46)
            replace HC_b := Aside0.mk (Kd.C_below HC_b.out hb46)
            replace HC_u := Aside0.mk (Kd.C_below HC_u.out hb46)
            replace HC_i := Aside0.mk (Kd.C_below HC_i.out hb46)
            replace HC_s := Aside0.mk (Kd.C_below HC_s.out hb46)
            replace HC_n := Aside0.mk (Kd.C_below HC_n.out hb46)
            replace HB := Aside0.mk (below_then HB.out HB.out.size hb46)
            clear hb46
            go_wp2_with (go_at_call 61; with_reducible refine (has_at _ _ i x _ _ HC_i.out HP_i.out Xi.out).mono ?_; rintro e w47 ⟨rfl, hb47⟩)
            replace HC_a := Aside0.mk (Kd.C_below HC_a.out hb47)
            replace HC_b := Aside0.mk (Kd.C_below HC_b.out hb47)
            replace HC_u := Aside0.mk (Kd.C_below HC_u.out hb47)
            replace HC_i := Aside0.mk (Kd.C_below HC_i.out hb47)
            replace HC_s := Aside0.mk (Kd.C_below HC_s.out hb47)
            replace HC_n := Aside0.mk (Kd.C_below HC_n.out hb47)
            replace HB := Aside0.mk (below_then HB.out HB.out.size hb47)
            clear hb47
            go_wp2_with (go_at_call 61; with_reducible refine (has_at _ _ a x _ _ HC_a.out HP_a.out Xa.out).mono ?_; rintro e w48 ⟨rfl, hb48⟩)
            replace HC_a := Aside0.mk (Kd.C_below HC_a.out hb48)
            replace HC_b := Aside0.mk (Kd.C_below HC_b.out hb48)
            replace HC_u := Aside0.mk (Kd.C_below HC_u.out hb48)
            replace HC_i := Aside0.mk (Kd.C_below HC_i.out hb48)
            replace HC_s := Aside0.mk (Kd.C_below HC_s.out hb48)
            replace HC_n := Aside0.mk (Kd.C_below HC_n.out hb48)
            replace HB := Aside0.mk (below_then HB.out HB.out.size hb48)
            clear hb48
            go_wp2_with (go_at_call 61; with_reducible refine (has_at _ _ s x _ _ HC_s.out HP_s.out Xs.out).mono ?_; rintro e w49 ⟨rfl, hb49⟩)
            replace HC_a := Aside0.mk (Kd.C_below HC_a.out hb49)
            replace HC_b := Aside0.mk (Kd.C_below HC_b.out hb49)
            replace HC_u := Aside0.mk (Kd.C_below HC_u.out hb49)
            replace HC_i := Aside0.mk (Kd.C_below HC_i.out hb49)
            replace HC_s := Aside0.mk (Kd.C_below HC_s.out hb49)
            replace HC_n := Aside0.mk (Kd.C_below HC_n.out hb49)
            replace HB := Aside0.mk (below_then HB.out HB.out.size hb49)
            clear hb49
            go_wp2_with (go_at_call 61; with_reducible refine (has_at _ _ a x _ _ HC_a.out HP_a.out Xa.out).mono ?_; rintro e w50 ⟨rfl, hb50⟩)
            replace HC_a := Aside0.mk (Kd.C_below HC_a.out hb50)
            replace HC_b := Aside0.mk (Kd.C_below HC_b.out hb50)
            replace HC_u := Aside0.mk (Kd.C_below HC_u.out hb50)
            replace HC_i := Aside0.mk (Kd.C_below HC_i.out hb50)
            replace HC_s := Aside0.mk (Kd.C_below HC_s.out hb50)
            replace HC_n := Aside0.mk (Kd.C_below HC_n.out hb50)
            replace HB := Aside0.mk (below_then HB.out HB.out.size hb50)
            clear hb50
            go_wp2_with (go_at_call 61; with_reducible refine (has_at _ _ n x _ _ HC_n.out HP_n.out Xn.out).mono ?_; rintro e w51 ⟨rfl, hb51⟩)
            replace HC_a := Aside0.mk (Kd.C_below HC_a.out hb51)
            replace HC_b := Aside0.mk (Kd.C_below HC_b.out hb51)
            replace HC_u := Aside0.mk (Kd.C_below HC_u.out hb51)
            replace HC_i := Aside0.mk (Kd.C_below HC_i.out hb51)
            replace HC_s := Aside0.mk (Kd.C_below HC_s.out hb51)
            replace HC_n := Aside0.mk (Kd.C_below HC_n.out hb51)
            replace HB := Aside0.mk (below_then HB.out HB.out.size hb51)
            clear hb51
            go_wp2_with (go_at_call 61; with_reducible refine (has_at _ _ a x _ _ HC_a.out HP_a.out Xa.out).mono ?_; rintro e w52 ⟨rfl, hb52⟩)
            replace HC_a := Aside0.mk (Kd.C_below HC_a.out hb52)
            replace HC_b := Aside0.mk (Kd.C_below HC_b.out hb52)
            replace HC_u := Aside0.mk (Kd.C_below HC_u.out hb52)
            replace HC_i := Aside0.mk (Kd.C_below HC_i.out hb52)
            replace HC_s := Aside0.mk (Kd.C_below HC_s.out hb52)
            replace HC_n := Aside0.mk (Kd.C_below HC_n.out hb52)
            replace HB := Aside0.mk (below_then HB.out HB.out.size hb52)
            clear hb52
            go_wp2
            go_meet
            case rel => exact ⟨rfl, HC_a, HB⟩
          | false =>
            go_wp2_with (go_at_call 61; with_reducible refine (has_at _ _ u x _ _ HC_u.out HP_u.out Xu.out).mono ?_; rintro e w53 ⟨rfl, hb53⟩)
            replace HC_a := Aside0.mk (Kd.C_below HC_a.out hb53)
            replace HC_b := Aside0.mk (Kd.C_below HC_b.out hb53)
            replace HC_u := Aside0.mk (Kd.C_below HC_u.out hb53)
            replace HC_i := Aside0.mk (Kd.C_below HC_i.out hb53)
            replace HC_s := Aside0.mk (Kd.C_below HC_s.out hb53)
            replace HC_n := Aside0.mk (Kd.C_below HC_n.out hb53)
            replace HB := Aside0.mk (below_then HB.out HB.out.size hb53)
            clear hb53
            go_wp2_with (go_at_call 61; with_reducible refine (has_at _ _ a x _ _ HC_a.out HP_a.out Xa.out).mono ?_; rintro e w54 ⟨rfl, hb54⟩)
            replace HC_a := Aside0.mk (Kd.C_below HC_a.out hb54)
            replace HC_b := Aside0.mk (Kd.C_below HC_b.out hb54)
            replace HC_u := Aside0.mk (Kd.C_below HC_u.out hb54)
            replace HC_i := Aside0.mk (Kd.C_below HC_i.out hb54)
            replace HC_s := Aside0.mk (Kd.C_below HC_s.out hb54)
            replace HC_n := Aside0.mk (Kd.C_below HC_n.out hb54)
            replace HB := Aside0.mk (below_then HB.out HB.out.size hb54)
            clear hb54
            go_wp2_with (go_at_call 61; with_reducible refine (has_at _ _ b x _ _ HC_b.out HP_b.out Xb.out).mono ?_; rintro e w55 ⟨rfl, hb55⟩)
            replace HC_a := Aside0.mk (Kd.C_below HC_a.out hb55)
            replace HC_b := Aside0.mk (Kd.C_below HC_b.out hb55)
            replace HC_u := Aside0.mk (Kd.C_below HC_u.out hb55)
            replace HC_i := Aside0.mk (Kd.C_below HC_i.out hb55)
            replace HC_s := Aside0.mk (Kd.C_below HC_s.out hb55)
            replace HC_n := Aside0.mk (Kd.C_below HC_n.out hb55)
            replace HB := Aside0.mk (below_then HB.out HB.out.size hb55)
            clear hb55
            go_wp2_with (go_at_call 61; with_reducible refine (has_at _ _ i x _ _ HC_i.out HP_i.out Xi.out).mono ?_; rintro e w56 ⟨rfl, hb56⟩)
            replace HC_a := Aside0.mk (Kd.C_below HC_a.out hb56)
            replace HC_b := Aside0.mk (Kd.C_below HC_b.out hb56)
            replace HC_u := Aside0.mk (Kd.C_below HC_u.out hb56)
            replace HC_i := Aside0.mk (Kd.C_below HC_i.out hb56)
            replace HC_s := Aside0.mk (Kd.C_below HC_s.out hb56)
            replace HC_n := Aside0.mk (Kd.C_below HC_n.out hb56)
            replace HB := Aside0.mk (below_then HB.out HB.out.size hb56)
            clear hb56
            go_wp2_with (go_at_call 61; with_reducible refine (has_at _ _ a x _ _ HC_a.out HP_a.out Xa.out).mono ?_; rintro e w57 ⟨rfl, hb57⟩)
            replace HC_a := Aside0.mk (Kd.C_below HC_a.out hb57)
            replace HC_b := Aside0.mk (Kd.C_below HC_b.out hb57)
            replace HC_u := Aside0.mk (Kd.C_below HC_u.out hb57)
            replace HC_i := Aside0.mk (Kd.C_below HC_i.out hb57)
            replace HC_s := Aside0.mk (Kd.C_below HC_s.out hb57)
            replace HC_n := Aside0.mk (Kd.C_below HC_n.out hb57)
            replace HB := Aside0.mk (below_then HB.out HB.out.size hb57)
            clear hb57
            go_wp2_with (go_at_call 61; with_reducible refine (has_at _ _ s x _ _ HC_s.out HP_s.out Xs.out).mono ?_; rintro e w58 ⟨rfl, hb58⟩)
            replace HC_a := Aside0.mk (Kd.C_below HC_a.out hb58)
            replace HC_b := Aside0.mk (Kd.C_below HC_b.out hb58)
            replace HC_u := Aside0.mk (Kd.C_below HC_u.out hb58)
            replace HC_i := Aside0.mk (Kd.C_below HC_i.out hb58)
            replace HC_s := Aside0.mk (Kd.C_below HC_s.out hb58)
            replace HC_n := Aside0.mk (Kd.C_below HC_n.out hb58)
            replace HB := Aside0.mk (below_then HB.out HB.out.size hb58)
            clear hb58
            go_wp2_with (go_at_call 61; with_reducible refine (has_at _ _ a x _ _ HC_a.out HP_a.out Xa.out).mono ?_; rintro e w59 ⟨rfl, hb59⟩)
            replace HC_a := Aside0.mk (Kd.C_below HC_a.out hb59)
            replace HC_b := Aside0.mk (Kd.C_below HC_b.out hb59)
            replace HC_u := Aside0.mk (Kd.C_below HC_u.out hb59)
            replace HC_i := Aside0.mk (Kd.C_below HC_i.out hb59)
            replace HC_s := Aside0.mk (Kd.C_below HC_s.out hb59)
            replace HC_n := Aside0.mk (Kd.C_below HC_n.out hb59)
            replace HB := Aside0.mk (below_then HB.out HB.out.size hb59)
            clear hb59
            go_wp2_with (go_at_call 61; with_reducible refine (has_at _ _ n x _ _ HC_n.out HP_n.out Xn.out).mono ?_; rintro e w60 ⟨rfl, hb60⟩)
            replace HC_a := Aside0.mk (Kd.C_below HC_a.out hb60)
            replace HC_b := Aside0.mk (Kd.C_below HC_b.out hb60)
            replace HC_u := Aside0.mk (Kd.C_below HC_u.out hb60)
            replace HC_i := Aside0.mk (Kd.C_below HC_i.out hb60)
            replace HC_s := Aside0.mk (Kd.C_below HC_s.out hb60)
            replace HC_n := Aside0.mk (Kd.C_below HC_n.out hb60)
            replace HB := Aside0.mk (below_then HB.out HB.out.size hb60)
            clear hb60
            go_wp2
            go_meet
            case rel => exact ⟨rfl, HC_a, HB⟩
    case rest =>
      as_aux_lemma =>
      clear HB HC_a HC_b HC_u HC_i HC_s HC_n
      clear HP_b
      clear HP_u
      clear HP_i
      clear HP_s
      clear HP_n
      obtain ⟨rfl, HC_a, HB⟩ := hcut
      go_upto_region 9 with (fail)
      (try simp only [Act.put, List.setIfInBounds_toArray, List.set_cons_zero, List.set_cons_succ])
      go_cut [155] (fun v155 wc => ∃ g : Bool, v155 = .bool g ∧ Aside0 (g = false → 0 ≤ r ∧ r ≤ 1099511627776 ∧ ins = true ∧ -1099511627776 ≤ y ∧ y < 1099511627776 ∧ x - r ≤ y ∧ y ≤ x + r) ∧ Aside0 (Kd.C k32 wc A1 (a).length (a)) ∧ Aside0 (Below W.heap.size W wc))
      case first =>
        as_aux_lemma =>
        by_cases d1 : r < 0
        ·
          go_wp2
          go_meet
          case rel => exact ⟨_, rfl, ⟨fun h => by first | cases h | (simp at h)⟩, HC_a, HB⟩
        ·
          by_cases d2 : 1099511627776 < r
          ·
            go_wp2
            go_meet
            case rel => exact ⟨_, rfl, ⟨fun h => by first | cases h | (simp at h)⟩, HC_a, HB⟩
          ·
            cases hi : ins with
            | false =>
              subst hi
              go_wp2
              go_meet
              case rel => exact ⟨_, rfl, ⟨fun h => by first | cases h | (simp at h)⟩, HC_a, HB⟩
            | true =>
              subst hi
              by_cases d3 : y < -1099511627776
              ·
                go_wp2
                go_meet
                case rel => exact ⟨_, rfl, ⟨fun h => by first | cases h | (simp at h)⟩, HC_a, HB⟩
              ·
                by_cases d4 : 1099511627776 ≤ y
                ·
                  go_wp2
                  go_meet
                  case rel => exact ⟨_, rfl, ⟨fun h => by first | cases h | (simp at h)⟩, HC_a, HB⟩
                ·
                  have hin := IN.out
                  have HX := Aside0.mk (show -1099511627776 ≤ x ∧ x < 1099511627776 by have h := hin.symm; simpa using h)
                  clear hin
                  go_wp2
                  all_goals
                    go_meet
                    case rel => first | exact ⟨_, rfl, ⟨fun hg => gap_up HX.out d1 d2 d3 d4 ‹x ≤ y› hg⟩, HC_a, HB⟩ | exact ⟨_, rfl, ⟨fun hg => gap_dn HX.out d1 d2 d3 d4 ‹y ≤ x› hg⟩, HC_a, HB⟩ | exact ⟨_, rfl, ⟨fun hg => gap_eq d1 d2 d3 d4 ‹x ≤ y› ‹y ≤ x›⟩, HC_a, HB⟩
      case rest =>
        as_aux_lemma =>
        clear HB HC_a
        obtain ⟨g, rfl, HG, HC_a, HB⟩ := hcut
        cases g with
        | true =>
          go_wp2_with (go_at_call 16; with_reducible refine (alive_at _).mono ?_; rintro e w61 ⟨rfl, hb61⟩)
          go_ret
          exact ⟨rfl, below_then HB.out HB.out.size hb61⟩
        | false =>
          obtain ⟨r0, r1, hi, y0, y1, t0, t1⟩ := HG.out rfl
          subst hi
          have hin := IN.out
          have HX : -1099511627776 ≤ x ∧ x < 1099511627776 := by have h := hin.symm; simpa using h
          obtain ⟨kg, ks, gr, sh, gy, sx, py, g1, g2, g3, g4, g5, g6, g7⟩ := memb_tol VA.out r0 r1 HX.1 HX.2 y0 y1 t0 t1
          rw [← PM.out] at g6
          have G1 := Aside0.mk g1
          have G2 := Aside0.mk g2
          have Xg := Aside0.mk g3
          have Xh := Aside0.mk g4
          have Xy := Aside0.mk g5
          have I1 := Aside0.mk g6
          have I2 := Aside0.mk g7
          clear r0 r1 y0 y1 t0 t1 hin HX g1 g2 g3 g4 g5 g6 g7
          go_wp2_with (go_at_call 38; with_reducible refine (span_Grow.calls kg _ _ a r gr 0 _ HC_a.out HP_a.out G1.out).mono ?_; rintro e w62 ⟨v62, rfl, hr62, hb62⟩; obtain ⟨A62, c62, e62⟩ := Kd.R_slice hr62; subst e62)
          replace HC_a := Aside0.mk (Kd.C_below HC_a.out hb62)
          replace HB := Aside0.mk (below_then HB.out HB.out.size hb62)
          clear hb62
          have HC_gr := Aside0.mk (Kd.R_reads' hr62).2.2
          have HP_gr := Aside0.mk (Kd.R_reads' hr62).2.1
          clear hr62
          go_wp2_with (go_at_call 40; with_reducible refine (span_Shrink.calls ks _ _ a r sh 0 _ HC_a.out HP_a.out G2.out).mono ?_; rintro e w63 ⟨v63, rfl, hr63, hb63⟩; obtain ⟨A63, c63, e63⟩ := Kd.R_slice hr63; subst e63)
          replace HC_a := Aside0.mk (Kd.C_below HC_a.out hb63)
          replace HC_gr := Aside0.mk (Kd.C_below HC_gr.out hb63)
          replace HB := Aside0.mk (below_then HB.out HB.out.size hb63)
          clear hb63
          have HC_sh := Aside0.mk (Kd.R_reads' hr63).2.2
          have HP_sh := Aside0.mk (Kd.R_reads' hr63).2.1
          clear hr63
          cases p with
          | true =>
            obtain rfl := I1.out rfl
            cases sx with
            | true =>
              obtain rfl := I2.out rfl
              go_wp2_with (go_at_call 61; with_reducible refine (has_at _ _ a x _ _ HC_a.out HP_a.out Xa.out).mono ?_; rintro e w64 ⟨rfl, hb64⟩)
              replace HC_a := Aside0.mk (Kd.C_below HC_a.out hb64)
              replace HC_gr := Aside0.mk (Kd.C_below HC_gr.out hb64)
              replace HC_sh := Aside0.mk (Kd.C_below HC_sh.out hb64)
              replace HB := Aside0.mk (below_then HB.out HB.out.size hb64)
              clear hb64
              go_wp2_with (go_at_call 61; with_reducible refine (has_at _ _ gr y _ _ HC_gr.out HP_gr.out Xg.out).mono ?_; rintro e w65 ⟨rfl, hb65⟩)
              replace HC_a := Aside0.mk (Kd.C_below HC_a.out hb65)
              replace HC_gr := Aside0.mk (Kd.C_below HC_gr.out hb65)
              replace HC_sh := Aside0.mk (Kd.C_below HC_sh.out hb65)
              replace HB := Aside0.mk (below_then HB.out HB.out.size hb65)
              clear hb65
              go_wp2_with (go_at_call 61; with_reducible refine (has_at _ _ sh x _ _ HC_sh.out HP_sh.out Xh.out).mono ?_; rintro e w66 ⟨rfl, hb66⟩)
              replace HC_a := Aside0.mk (Kd.C_below HC_a.out hb66)
              replace HC_gr := Aside0.mk (Kd.C_below HC_gr.out hb66)
              replace HC_sh := Aside0.mk (Kd.C_below HC_sh.out hb66)
              replace HB := Aside0.mk (below_then HB.out HB.out.size hb66)
              clear hb66
              go_wp2_with (go_at_call 61; with_reducible refine (has_at _ _ a y _ _ HC_a.out HP_a.out Xy.out).mono ?_; rintro e w67 ⟨rfl, hb67⟩)
              replace HC_a := Aside0.mk (Kd.C_below HC_a.out hb67)
              replace HC_gr := Aside0.mk (Kd.C_below HC_gr.out hb67)
              replace HC_sh := Aside0.mk (Kd.C_below HC_sh.out hb67)
              replace HB := Aside0.mk (below_then HB.out HB.out.size hb67)
              clear hb67
              go_wp2_with (go_at_call 16; with_reducible refine (alive_at _).mono ?_; rintro e w68 ⟨rfl, hb68⟩)
              go_ret
              exact ⟨rfl, below_then HB.out HB.out.size hb68⟩
            | false =>
              go_wp2_with (go_at_call 61; with_reducible refine (has_at _ _ a x _ _ HC_a.out HP_a.out Xa.out).mono ?_; rintro e w69 ⟨rfl, hb69⟩)
              replace HC_a := Aside0.mk (Kd.C_below HC_a.out hb69)
              replace HC_gr := Aside0.mk (Kd.C_below HC_gr.out hb69)
              replace HC_sh := Aside0.mk (Kd.C_below HC_sh.out hb69)
              replace HB := Aside0.mk (below_then HB.out HB.out.size hb69)
              clear hb69
              go_wp2_with (go_at_call 61; with_reducible refine (has_at _ _ gr y _ _ HC_gr.out HP_gr.out Xg.out).mono ?_; rintro e w70 ⟨rfl, hb70⟩)
              replace HC_a := Aside0.mk (Kd.C_below HC_a.out hb70)
              replace HC_gr := Aside0.mk (Kd.C_below HC_gr.out hb70)
              replace HC_sh := Aside0.mk (Kd.C_below HC_sh.out hb70)
              replace HB := Aside0.mk (below_then HB.out HB.out.size hb70)
              clear hb70
              go_wp2_with (go_at_call 61; with_reducible refine (has_at _ _ sh x _ _ HC_sh.out HP_sh.out Xh.out).mono ?_; rintro e w71 ⟨rfl, hb71⟩)
              replace HC_a := Aside0.mk (Kd.C_below HC_a.out hb71)
              replace HC_gr := Aside0.mk (Kd.C_below HC_gr.out hb71)
              replace HC_sh := Aside0.mk (Kd.C_below HC_sh.out hb71)
              replace HB := Aside0.mk (below_then HB.out HB.out.size hb71)
              clear hb71
              go_wp2_with (go_at_call 16; with_reducible refine (alive_at _).mono ?_; rintro e w72 ⟨rfl, hb72⟩)
              go_ret
              exact ⟨rfl, below_then HB.out HB.out.size hb72⟩
          | false =>
            cases sx with
            | true =>
              obtain rfl := I2.out rfl
              go_wp2_with (go_at_call 61; with_reducible refine (has_at _ _ a x _ _ HC_a.out HP_a.out Xa.out).mono ?_; rintro e w73 ⟨rfl, hb73⟩)
              replace HC_a := Aside0.mk (Kd.C_below HC_a.out hb73)
              replace HC_gr := Aside0.mk (Kd.C_below HC_gr.out hb73)
              replace HC_sh := Aside0.mk (Kd.C_below HC_sh.out hb73)
              replace HB := Aside0.mk (below_then HB.out HB.out.size hb73)
              clear hb73
              go_wp2_with (go_at_call 61; with_reducible refine (has_at _ _ sh x _ _ HC_sh.out HP_sh.out Xh.out).mono ?_; rintro e w74 ⟨rfl, hb74⟩)
              replace HC_a := Aside0.mk (Kd.C_below HC_a.out hb74)
              replace HC_gr := Aside0.mk (Kd.C_below HC_gr.out hb74)
              replace HC_sh := Aside0.mk (Kd.C_below HC_sh.out hb74)
              replace HB := Aside0.mk (below_then HB.out HB.out.size hb74)
              clear hb74
              go_wp2_with (go_at_call 61; with_reducible refine (has_at _ _ a y _ _ HC_a.out HP_a.out Xy.out).mono ?_; rintro e w75 ⟨rfl, hb75⟩)
              replace HC_a := Aside0.mk (Kd.C_below HC_a.out hb75)
              replace HC_gr := Aside0.mk (Kd.C_below HC_gr.out hb75)
              replace HC_sh := Aside0.mk (Kd.C_below HC_sh.out hb75)
              replace HB := Aside0.mk (below_then HB.out HB.out.size hb75)
              clear hb75
              go_wp2_with (go_at_call 16; with_reducible refine (alive_at _).mono ?_; rintro e w76 ⟨rfl, hb76⟩)
              go_ret
              exact ⟨rfl, below_then HB.out HB.out.size hb76⟩
            | false =>
              go_wp2_with (go_at_call 61; with_reducible refine (has_at _ _ a x _ _ HC_a.out HP_a.out Xa.out).mono ?_; rintro e w77 ⟨rfl, hb77⟩)
              replace HC_a := Aside0.mk (Kd.C_below HC_a.out hb77)
              replace HC_gr := Aside0.mk (Kd.C_below HC_gr.out hb77)
              replace HC_sh := Aside0.mk (Kd.C_below HC_sh.out hb77)
              replace HB := Aside0.mk (below_then HB.out HB.out.size hb77)
              clear hb77
              go_wp2_with (go_at_call 61; with_reducible refine (has_at _ _ sh x _ _ HC_sh.out HP_sh.out Xh.out).mono ?_; rintro e w78 ⟨rfl, hb78⟩)
              replace HC_a := Aside0.mk (Kd.C_below HC_a.out hb78)
              replace HC_gr := Aside0.mk (Kd.C_below HC_gr.out hb78)
              replace HC_sh := Aside0.mk (Kd.C_below HC_sh.out hb78)
              replace HB := Aside0.mk (below_then HB.out HB.out.size hb78)
              clear hb78
              go_wp2_with (go_at_call 16; with_reducible refine (alive_at _).mono ?_; rintro e w79 ⟨rfl, hb79⟩)
              go_ret
              exact ⟨rfl, below_then HB.out HB.out.size hb79⟩
end Go.Proofs.Ytningpmoojnomaa.Pr
end
section
namespace Go.Proofs.Ytningpmoojnomaa.spanMembers
open Go.ChangeShapes Go.WideShapes Go.ChangeAt Go.RowKit Go.Proofs.Ytningpmoojnomaa.Pr
set_option linter.unusedVariables false
theorem own : ownKnob Try.prog.godebug = none := by kernel_rfl
theorem laidOut : laidOutB Try.prog = true := by kernel_rfl
set_option maxRecDepth 100000 in
theorem lifted (os : Os) (started : os.Started) (H : Type) (enc : TypeId × Value → H) :
    ReturnsInHanded {} Try.checked os 14 .any (Rows.spanMembersSpec.pre6 enc Try.prog Try.f14 Rows.spanMembersRow.domain false) (Rows.spanMembersSpec.post enc Try.prog Try.f14 false true false false) := by
  refine returnsInHanded_of_change (C := Try.checked) own started (by kernel_rfl) Try.func14
    (ChangeSpec.witness6 (enc := enc) (C := Try.checked) false ⟨#[], #[.slice none 0 0, .slice none 0 0, .int .i64 0, .int .i64 0, .int .i64 0], []⟩ 8 (by kernel_rfl) (by kernel_rfl) (by kernel_rfl) (by kernel_rfl)) ?_
  intro W base args ds gs before hval0 hW hcnd _
  have hval : ∀ (j : Nat) t v, Try.f14.params[j]? = some t → args[j]? = some v → Value.okWide Try.prog W .any base t v := hval0
  have hW' := hW
  obtain ⟨p, q, hA0, hV, rfl, hfz, hnd⟩ := hW
  have hA : DataW.TrodAll enc Try.prog W 0 (fun _ => true) true Try.f14.params.toList args.toList ds p := hA0
  rw [Try.params14] at hA hval
  obtain ⟨v0, vs0, d0, ds0, p0, q0, hargs, rfl, rfl, h0, r0⟩ := trodAll_cons hA
  obtain ⟨v1, vs1, d1, ds1, p1, q1, rfl, rfl, rfl, h1, r1⟩ := trodAll_cons r0
  obtain ⟨v2, vs2, d2, ds2, p2, q2, rfl, rfl, rfl, h2, r2⟩ := trodAll_cons r1
  obtain ⟨v3, vs3, d3, ds3, p3, q3, rfl, rfl, rfl, h3, r3⟩ := trodAll_cons r2
  obtain ⟨v4, vs4, d4, ds4, p4, q4, rfl, rfl, rfl, h4, r4⟩ := trodAll_cons r3
  obtain ⟨rfl, rfl, rfl⟩ := trodAll_nil r4
  obtain rfl : args = #[v0, v1, v2, v3, v4] := by cases args; simp_all
  obtain ⟨rfl, rfl⟩ := trodVars_none hV
  have k0 := h0
  have lt0 : ∀ x ∈ p0, x.block < W.heap.size := by obtain ⟨m, hm⟩ := k0; exact DataW.trod_lt m _ _ _ hm
  obtain ⟨a0, len0, cap0, rfl⟩ := okWide_slice Try.underlying22 (hval 0 22 v0 rfl rfl)
  obtain ⟨l0, rfl, c0, hr0, w0⟩ := open_spans h0
  have k1 := h1
  have lt1 : ∀ x ∈ p1, x.block < W.heap.size := by obtain ⟨m, hm⟩ := k1; exact DataW.trod_lt m _ _ _ hm
  obtain ⟨a1, len1, cap1, rfl⟩ := okWide_slice Try.underlying22 (hval 1 22 v1 rfl rfl)
  obtain ⟨l1, rfl, c1, hr1, w1⟩ := open_spans h1
  obtain ⟨a2, rfl, rfl, rfl, w2⟩ := open_int Try.underlying3 (hval 2 3 v2 rfl rfl) h2
  obtain ⟨a3, rfl, rfl, rfl, w3⟩ := open_int Try.underlying3 (hval 3 3 v3 rfl rfl) h3
  obtain ⟨a4, rfl, rfl, rfl, w4⟩ := open_int Try.underlying3 (hval 4 3 v4 rfl rfl) h4
  clear hA0 hval0
  try simp only [List.append_nil] at hW'
  refine (SpanMembers_walk a0 cap0 l0 c0 hr0 w0 a1 cap1 l1 c1 hr1 w1 a2 w2 a3 w3 a4 w4).mono fun e W' ⟨he, bel⟩ => ?_
  subst he
  exact ⟨_, rfl, _, _, _, [], _, [], hW', trodAll_mk1 (shut_bool Try.underlying4 _), (trodAll_cons_mk (Below.trod laidOut (by kernel_rfl) (of_decide_eq_true (by kernel_rfl)) k0 bel lt0) (trodAll_cons_mk (Below.trod laidOut (by kernel_rfl) (of_decide_eq_true (by kernel_rfl)) k1 bel lt1) (trodAll_cons_mk (shut_int Try.underlying3 w2) (trodAll_cons_mk (shut_int Try.underlying3 w3) (trodAll_cons_mk (shut_int Try.underlying3 w4) trodAll_mk0))))), rfl, bel.frame _, fun h => by cases h⟩
theorem over : Rows.spanMembersRow.holds Try.pinned (OpenSpec.ofChange Rows.spanMembersSpec) :=
  OpenClaim.holds_of_wide 14 Try.f14 rfl rfl rfl rfl rfl rfl rfl ⟨rfl, rfl, rfl, rfl, rfl⟩ rfl rfl rfl rfl rfl (by kernel_rfl) Try.func14 (by kernel_rfl)
    (of_decide_eq_true (by kernel_rfl)) (by unfold Func.isWrapper; first | (rw [if_pos (by decide +kernel)]; kernel_rfl) | (rw [if_neg (by decide +kernel)]; exact ⟨rfl, rfl⟩))
    (fun os started H enc _ => lifted os started H enc)
theorem proved : Rows.SpanMembersSaid := over
end Go.Proofs.Ytningpmoojnomaa.spanMembers
namespace Go.Proofs.Ytningpmoojnomaa
/-- The row, under a short name, for the claim. -/
theorem spanMembers_holds : Rows.SpanMembersSaid := spanMembers.proved
end Go.Proofs.Ytningpmoojnomaa
end
