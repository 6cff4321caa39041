/-
  No cell of these rows narrows 'for every input' (looked for: loops, veiled, ifaces, maps, wideKeys, modest, calm, conditions, laid).
  DERIVED. THE GIVEN ROWS OF THIS SEAT. 12 by the template 'for every input the law returns true; each argument reads behind the call as it read before'; 0 by the template 'total and deterministic' (their statements: YtningpmoojnomaaTotals.lean).
  GIVEN WITH THE SEED: the statements are not yours to turn. If you find one false, say at which input.
  Laid BY PROGRAM, IN A SANDBOX (cutbox-rows.mjs): the forced cells as the released guide's own fill.sh prints them over the translation edc4630f874d90a3… (all of the seat's roots in one cut). By AI agents, Wed Nov 11 2026. No macro, syntax, notation, axiom, sorry.
-/
import Derived.Test.YtningpmoojnomaaChecked
import GoSem.Claim
import GoSem.ClaimJoined
import GoSem.ClaimMapViews
import Derived.JoinedTies
import Derived.KernelRfl
namespace Go.Proofs.Ytningpmoojnomaa
/- THE CELL 'sum', in the pinned program and in every row, IS THE sha256 OF THE DUMP (.gsa) THAT YtningpmoojnomaaProg.lean LOADS. Nothing in Lean hashes anything: it is a label: what it is worth is what the hold of that sum in a sandbox is worth. -/
noncomputable def Try.pinned : Pinned := { name := "ytningpmoojnomaa", sum := "edc4630f874d90a3be52be9896f19f5d5afd8f288455375247c8e82faf8ae476", checked := Try.checked }
namespace Rows
def none {H : Type} : Left H := { results := [], args := [] }

/-- 'kimberlitelaw01.SpanOf': WHATEVER THE INPUT: true; the input reads as it did. -/
def spanOfSpec : ChangeSpec := { name := "spanOf", fn := fun _ => fun
  | [d] => { results := [.lit (.bool true)], args := [d] }
  | _ => none }
def spanOfRow : OpenClaim := { program := "ytningpmoojnomaa", sum := "edc4630f874d90a3be52be9896f19f5d5afd8f288455375247c8e82faf8ae476", func := "kimberlite/kimberlitelaw01.SpanOf", spec := "spanOf", unfollowed := true, recurses := true, apart := false }
def SpanOfSaid : Prop := spanOfRow.holds Try.pinned (OpenSpec.ofChange spanOfSpec)

/-- ITS FALSE NEIGHBOUR: 'it returns false'. Refute it at one input. -/
def spanOfWrong : ChangeSpec := { name := "spanOf", fn := fun _ => fun
  | [d] => { results := [.lit (.bool false)], args := [d] }
  | _ => none }
def SpanOfWrongFalsely : Prop := spanOfRow.holds Try.pinned (OpenSpec.ofChange spanOfWrong)

/-- 'kimberlitelaw01.SpanCovers': WHATEVER THE INPUT: true; the input reads as it did. -/
def spanCoversSpec : ChangeSpec := { name := "spanCovers", fn := fun _ => fun
  | [d1, d2] => { results := [.lit (.bool true)], args := [d1, d2] }
  | _ => none }
def spanCoversRow : OpenClaim := { program := "ytningpmoojnomaa", sum := "edc4630f874d90a3be52be9896f19f5d5afd8f288455375247c8e82faf8ae476", func := "kimberlite/kimberlitelaw01.SpanCovers", spec := "spanCovers", unfollowed := true, recurses := true, apart := false }
def SpanCoversSaid : Prop := spanCoversRow.holds Try.pinned (OpenSpec.ofChange spanCoversSpec)

/-- ITS FALSE NEIGHBOUR: 'it returns false'. Refute it at one input. -/
def spanCoversWrong : ChangeSpec := { name := "spanCovers", fn := fun _ => fun
  | [d1, d2] => { results := [.lit (.bool false)], args := [d1, d2] }
  | _ => none }
def SpanCoversWrongFalsely : Prop := spanCoversRow.holds Try.pinned (OpenSpec.ofChange spanCoversWrong)

/-- 'kimberlitelaw01.SpanFewest': WHATEVER THE INPUT: true; the input reads as it did. -/
def spanFewestSpec : ChangeSpec := { name := "spanFewest", fn := fun _ => fun
  | [d1, d2, d3] => { results := [.lit (.bool true)], args := [d1, d2, d3] }
  | _ => none }
def spanFewestRow : OpenClaim := { program := "ytningpmoojnomaa", sum := "edc4630f874d90a3be52be9896f19f5d5afd8f288455375247c8e82faf8ae476", func := "kimberlite/kimberlitelaw01.SpanFewest", spec := "spanFewest", unfollowed := true, recurses := true, apart := false }
def SpanFewestSaid : Prop := spanFewestRow.holds Try.pinned (OpenSpec.ofChange spanFewestSpec)

/-- ITS FALSE NEIGHBOUR: 'it returns false'. Refute it at one input. -/
def spanFewestWrong : ChangeSpec := { name := "spanFewest", fn := fun _ => fun
  | [d1, d2, d3] => { results := [.lit (.bool false)], args := [d1, d2, d3] }
  | _ => none }
def SpanFewestWrongFalsely : Prop := spanFewestRow.holds Try.pinned (OpenSpec.ofChange spanFewestWrong)

/-- 'kimberlitelaw01.SpanLooks': WHATEVER THE INPUT: true; the input reads as it did. -/
def spanLooksSpec : ChangeSpec := { name := "spanLooks", fn := fun _ => fun
  | [d1, d2, d3] => { results := [.lit (.bool true)], args := [d1, d2, d3] }
  | _ => none }
def spanLooksRow : OpenClaim := { program := "ytningpmoojnomaa", sum := "edc4630f874d90a3be52be9896f19f5d5afd8f288455375247c8e82faf8ae476", func := "kimberlite/kimberlitelaw01.SpanLooks", spec := "spanLooks", unfollowed := true, recurses := true, apart := false }
def SpanLooksSaid : Prop := spanLooksRow.holds Try.pinned (OpenSpec.ofChange spanLooksSpec)

/-- ITS FALSE NEIGHBOUR: 'it returns false'. Refute it at one input. -/
def spanLooksWrong : ChangeSpec := { name := "spanLooks", fn := fun _ => fun
  | [d1, d2, d3] => { results := [.lit (.bool false)], args := [d1, d2, d3] }
  | _ => none }
def SpanLooksWrongFalsely : Prop := spanLooksRow.holds Try.pinned (OpenSpec.ofChange spanLooksWrong)

/-- 'kimberlitelaw01.SpanTolerates': WHATEVER THE INPUT: true; the input reads as it did. -/
def spanToleratesSpec : ChangeSpec := { name := "spanTolerates", fn := fun _ => fun
  | [d1, d2] => { results := [.lit (.bool true)], args := [d1, d2] }
  | _ => none }
def spanToleratesRow : OpenClaim := { program := "ytningpmoojnomaa", sum := "edc4630f874d90a3be52be9896f19f5d5afd8f288455375247c8e82faf8ae476", func := "kimberlite/kimberlitelaw01.SpanTolerates", spec := "spanTolerates", unfollowed := true, recurses := true, apart := false }
def SpanToleratesSaid : Prop := spanToleratesRow.holds Try.pinned (OpenSpec.ofChange spanToleratesSpec)

/-- ITS FALSE NEIGHBOUR: 'it returns false'. Refute it at one input. -/
def spanToleratesWrong : ChangeSpec := { name := "spanTolerates", fn := fun _ => fun
  | [d1, d2] => { results := [.lit (.bool false)], args := [d1, d2] }
  | _ => none }
def SpanToleratesWrongFalsely : Prop := spanToleratesRow.holds Try.pinned (OpenSpec.ofChange spanToleratesWrong)

/-- 'kimberlitelaw01.SpanMet': WHATEVER THE INPUT: true; the input reads as it did. -/
def spanMetSpec : ChangeSpec := { name := "spanMet", fn := fun _ => fun
  | [d1, d2] => { results := [.lit (.bool true)], args := [d1, d2] }
  | _ => none }
def spanMetRow : OpenClaim := { program := "ytningpmoojnomaa", sum := "edc4630f874d90a3be52be9896f19f5d5afd8f288455375247c8e82faf8ae476", func := "kimberlite/kimberlitelaw01.SpanMet", spec := "spanMet", unfollowed := true, recurses := true, apart := false }
def SpanMetSaid : Prop := spanMetRow.holds Try.pinned (OpenSpec.ofChange spanMetSpec)

/-- ITS FALSE NEIGHBOUR: 'it returns false'. Refute it at one input. -/
def spanMetWrong : ChangeSpec := { name := "spanMet", fn := fun _ => fun
  | [d1, d2] => { results := [.lit (.bool false)], args := [d1, d2] }
  | _ => none }
def SpanMetWrongFalsely : Prop := spanMetRow.holds Try.pinned (OpenSpec.ofChange spanMetWrong)

/-- 'kimberlitelaw01.SpanLaid': WHATEVER THE INPUT: true; the input reads as it did. -/
def spanLaidSpec : ChangeSpec := { name := "spanLaid", fn := fun _ => fun
  | [d1, d2] => { results := [.lit (.bool true)], args := [d1, d2] }
  | _ => none }
def spanLaidRow : OpenClaim := { program := "ytningpmoojnomaa", sum := "edc4630f874d90a3be52be9896f19f5d5afd8f288455375247c8e82faf8ae476", func := "kimberlite/kimberlitelaw01.SpanLaid", spec := "spanLaid", unfollowed := true, recurses := true, apart := false }
def SpanLaidSaid : Prop := spanLaidRow.holds Try.pinned (OpenSpec.ofChange spanLaidSpec)

/-- ITS FALSE NEIGHBOUR: 'it returns false'. Refute it at one input. -/
def spanLaidWrong : ChangeSpec := { name := "spanLaid", fn := fun _ => fun
  | [d1, d2] => { results := [.lit (.bool false)], args := [d1, d2] }
  | _ => none }
def SpanLaidWrongFalsely : Prop := spanLaidRow.holds Try.pinned (OpenSpec.ofChange spanLaidWrong)

/-- 'kimberlitelaw01.SpanPoints': WHATEVER THE INPUT: true; the input reads as it did. -/
def spanPointsSpec : ChangeSpec := { name := "spanPoints", fn := fun _ => fun
  | [d] => { results := [.lit (.bool true)], args := [d] }
  | _ => none }
def spanPointsRow : OpenClaim := { program := "ytningpmoojnomaa", sum := "edc4630f874d90a3be52be9896f19f5d5afd8f288455375247c8e82faf8ae476", func := "kimberlite/kimberlitelaw01.SpanPoints", spec := "spanPoints", unfollowed := true, recurses := true, apart := false }
def SpanPointsSaid : Prop := spanPointsRow.holds Try.pinned (OpenSpec.ofChange spanPointsSpec)

/-- ITS FALSE NEIGHBOUR: 'it returns false'. Refute it at one input. -/
def spanPointsWrong : ChangeSpec := { name := "spanPoints", fn := fun _ => fun
  | [d] => { results := [.lit (.bool false)], args := [d] }
  | _ => none }
def SpanPointsWrongFalsely : Prop := spanPointsRow.holds Try.pinned (OpenSpec.ofChange spanPointsWrong)

/-- 'kimberlitelaw01.SpanTwo': WHATEVER THE INPUT: true; the input reads as it did. -/
def spanTwoSpec : ChangeSpec := { name := "spanTwo", fn := fun _ => fun
  | [d1, d2] => { results := [.lit (.bool true)], args := [d1, d2] }
  | _ => none }
def spanTwoRow : OpenClaim := { program := "ytningpmoojnomaa", sum := "edc4630f874d90a3be52be9896f19f5d5afd8f288455375247c8e82faf8ae476", func := "kimberlite/kimberlitelaw01.SpanTwo", spec := "spanTwo", unfollowed := true, recurses := true, apart := false }
def SpanTwoSaid : Prop := spanTwoRow.holds Try.pinned (OpenSpec.ofChange spanTwoSpec)

/-- ITS FALSE NEIGHBOUR: 'it returns false'. Refute it at one input. -/
def spanTwoWrong : ChangeSpec := { name := "spanTwo", fn := fun _ => fun
  | [d1, d2] => { results := [.lit (.bool false)], args := [d1, d2] }
  | _ => none }
def SpanTwoWrongFalsely : Prop := spanTwoRow.holds Try.pinned (OpenSpec.ofChange spanTwoWrong)

/-- 'kimberlitelaw01.SpanBoolean': WHATEVER THE INPUT: true; the input reads as it did. -/
def spanBooleanSpec : ChangeSpec := { name := "spanBoolean", fn := fun _ => fun
  | [d1, d2, d3] => { results := [.lit (.bool true)], args := [d1, d2, d3] }
  | _ => none }
def spanBooleanRow : OpenClaim := { program := "ytningpmoojnomaa", sum := "edc4630f874d90a3be52be9896f19f5d5afd8f288455375247c8e82faf8ae476", func := "kimberlite/kimberlitelaw01.SpanBoolean", spec := "spanBoolean", unfollowed := true, recurses := true, apart := false }
def SpanBooleanSaid : Prop := spanBooleanRow.holds Try.pinned (OpenSpec.ofChange spanBooleanSpec)

/-- ITS FALSE NEIGHBOUR: 'it returns false'. Refute it at one input. -/
def spanBooleanWrong : ChangeSpec := { name := "spanBoolean", fn := fun _ => fun
  | [d1, d2, d3] => { results := [.lit (.bool false)], args := [d1, d2, d3] }
  | _ => none }
def SpanBooleanWrongFalsely : Prop := spanBooleanRow.holds Try.pinned (OpenSpec.ofChange spanBooleanWrong)

/-- 'kimberlitelaw01.SpanAdjoint': WHATEVER THE INPUT: true; the input reads as it did. -/
def spanAdjointSpec : ChangeSpec := { name := "spanAdjoint", fn := fun _ => fun
  | [d1, d2, d3, d4] => { results := [.lit (.bool true)], args := [d1, d2, d3, d4] }
  | _ => none }
def spanAdjointRow : OpenClaim := { program := "ytningpmoojnomaa", sum := "edc4630f874d90a3be52be9896f19f5d5afd8f288455375247c8e82faf8ae476", func := "kimberlite/kimberlitelaw01.SpanAdjoint", spec := "spanAdjoint", unfollowed := true, recurses := true, apart := false }
def SpanAdjointSaid : Prop := spanAdjointRow.holds Try.pinned (OpenSpec.ofChange spanAdjointSpec)

/-- ITS FALSE NEIGHBOUR: 'it returns false'. Refute it at one input. -/
def spanAdjointWrong : ChangeSpec := { name := "spanAdjoint", fn := fun _ => fun
  | [d1, d2, d3, d4] => { results := [.lit (.bool false)], args := [d1, d2, d3, d4] }
  | _ => none }
def SpanAdjointWrongFalsely : Prop := spanAdjointRow.holds Try.pinned (OpenSpec.ofChange spanAdjointWrong)

/-- 'kimberlitelaw01.SpanMembers': WHATEVER THE INPUT: true; the input reads as it did. -/
def spanMembersSpec : ChangeSpec := { name := "spanMembers", fn := fun _ => fun
  | [d1, d2, d3, d4, d5] => { results := [.lit (.bool true)], args := [d1, d2, d3, d4, d5] }
  | _ => none }
def spanMembersRow : OpenClaim := { program := "ytningpmoojnomaa", sum := "edc4630f874d90a3be52be9896f19f5d5afd8f288455375247c8e82faf8ae476", func := "kimberlite/kimberlitelaw01.SpanMembers", spec := "spanMembers", unfollowed := true, recurses := true, apart := false }
def SpanMembersSaid : Prop := spanMembersRow.holds Try.pinned (OpenSpec.ofChange spanMembersSpec)

/-- ITS FALSE NEIGHBOUR: 'it returns false'. Refute it at one input. -/
def spanMembersWrong : ChangeSpec := { name := "spanMembers", fn := fun _ => fun
  | [d1, d2, d3, d4, d5] => { results := [.lit (.bool false)], args := [d1, d2, d3, d4, d5] }
  | _ => none }
def SpanMembersWrongFalsely : Prop := spanMembersRow.holds Try.pinned (OpenSpec.ofChange spanMembersWrong)

/- THE SECOND FORM. 'bulk': how many values and letters a reading holds, each counted each time it is reached (what is shared counts as often as it is met; a slice's spare places count too). A statement '..UptoSaid' is the law's where the arguments, and the package variables that the reading takes, are together of bulk at most 1048576: NARROWER than '..Said'. Prove '..Said' where nothing that the law and all that it calls make is longer than what came in: it says more and counts as full. Else prove '..UptoSaid'. A law counts once. -/
mutual
def uptoBulk {H : Type} : DataW H → Nat
  | .lit (.string bytes) => bytes.length + 1
  | .lit _ => 1
  | .nil => 1
  | .ptr d => uptoBulk d + 1
  | .slice elems spare => uptoBulkAll elems + uptoBulkAll spare + 1
  | .agg parts => uptoBulkAll parts + 1
  | .iface _ d => uptoBulk d + 1
  | .map entries => uptoBulkEntries entries + 1
  | .held _ => 1
def uptoBulkAll {H : Type} : List (DataW H) → Nat
  | [] => 0
  | d :: r => uptoBulk d + uptoBulkAll r
def uptoBulkEntries {H : Type} : List (Lit × DataW H) → Nat
  | [] => 0
  | x :: r => uptoBulkEntry x + uptoBulkEntries r
def uptoBulkEntry {H : Type} : Lit × DataW H → Nat
  | (.string bytes, d) => bytes.length + uptoBulk d + 1
  | (_, d) => uptoBulk d + 1
 end
def uptoSmall : (H : Type) → List (DataW H) → Bool := fun _ ds => decide (uptoBulkAll ds ≤ 1048576)
def OpenSpec.upto (s : _root_.Go.ChangeSpec) : _root_.Go.OpenSpec := { _root_.Go.OpenSpec.ofChange s with cond := some uptoSmall }

/-- 'kimberlitelaw01.SpanOf', WHERE WHAT IT READS IS OF BULK AT MOST 1048576: true; the input reads as it did. -/
def spanOfUptoRow : OpenClaim := { program := "ytningpmoojnomaa", sum := "edc4630f874d90a3be52be9896f19f5d5afd8f288455375247c8e82faf8ae476", func := "kimberlite/kimberlitelaw01.SpanOf", spec := "spanOf", unfollowed := true, recurses := true, apart := false, narrowed := true }
def SpanOfUptoSaid : Prop := spanOfUptoRow.holds Try.pinned (OpenSpec.upto spanOfSpec)

/-- 'kimberlitelaw01.SpanCovers', WHERE WHAT IT READS IS OF BULK AT MOST 1048576: true; the input reads as it did. -/
def spanCoversUptoRow : OpenClaim := { program := "ytningpmoojnomaa", sum := "edc4630f874d90a3be52be9896f19f5d5afd8f288455375247c8e82faf8ae476", func := "kimberlite/kimberlitelaw01.SpanCovers", spec := "spanCovers", unfollowed := true, recurses := true, apart := false, narrowed := true }
def SpanCoversUptoSaid : Prop := spanCoversUptoRow.holds Try.pinned (OpenSpec.upto spanCoversSpec)

/-- 'kimberlitelaw01.SpanFewest', WHERE WHAT IT READS IS OF BULK AT MOST 1048576: true; the input reads as it did. -/
def spanFewestUptoRow : OpenClaim := { program := "ytningpmoojnomaa", sum := "edc4630f874d90a3be52be9896f19f5d5afd8f288455375247c8e82faf8ae476", func := "kimberlite/kimberlitelaw01.SpanFewest", spec := "spanFewest", unfollowed := true, recurses := true, apart := false, narrowed := true }
def SpanFewestUptoSaid : Prop := spanFewestUptoRow.holds Try.pinned (OpenSpec.upto spanFewestSpec)

/-- 'kimberlitelaw01.SpanLooks', WHERE WHAT IT READS IS OF BULK AT MOST 1048576: true; the input reads as it did. -/
def spanLooksUptoRow : OpenClaim := { program := "ytningpmoojnomaa", sum := "edc4630f874d90a3be52be9896f19f5d5afd8f288455375247c8e82faf8ae476", func := "kimberlite/kimberlitelaw01.SpanLooks", spec := "spanLooks", unfollowed := true, recurses := true, apart := false, narrowed := true }
def SpanLooksUptoSaid : Prop := spanLooksUptoRow.holds Try.pinned (OpenSpec.upto spanLooksSpec)

/-- 'kimberlitelaw01.SpanTolerates', WHERE WHAT IT READS IS OF BULK AT MOST 1048576: true; the input reads as it did. -/
def spanToleratesUptoRow : OpenClaim := { program := "ytningpmoojnomaa", sum := "edc4630f874d90a3be52be9896f19f5d5afd8f288455375247c8e82faf8ae476", func := "kimberlite/kimberlitelaw01.SpanTolerates", spec := "spanTolerates", unfollowed := true, recurses := true, apart := false, narrowed := true }
def SpanToleratesUptoSaid : Prop := spanToleratesUptoRow.holds Try.pinned (OpenSpec.upto spanToleratesSpec)

/-- 'kimberlitelaw01.SpanMet', WHERE WHAT IT READS IS OF BULK AT MOST 1048576: true; the input reads as it did. -/
def spanMetUptoRow : OpenClaim := { program := "ytningpmoojnomaa", sum := "edc4630f874d90a3be52be9896f19f5d5afd8f288455375247c8e82faf8ae476", func := "kimberlite/kimberlitelaw01.SpanMet", spec := "spanMet", unfollowed := true, recurses := true, apart := false, narrowed := true }
def SpanMetUptoSaid : Prop := spanMetUptoRow.holds Try.pinned (OpenSpec.upto spanMetSpec)

/-- 'kimberlitelaw01.SpanLaid', WHERE WHAT IT READS IS OF BULK AT MOST 1048576: true; the input reads as it did. -/
def spanLaidUptoRow : OpenClaim := { program := "ytningpmoojnomaa", sum := "edc4630f874d90a3be52be9896f19f5d5afd8f288455375247c8e82faf8ae476", func := "kimberlite/kimberlitelaw01.SpanLaid", spec := "spanLaid", unfollowed := true, recurses := true, apart := false, narrowed := true }
def SpanLaidUptoSaid : Prop := spanLaidUptoRow.holds Try.pinned (OpenSpec.upto spanLaidSpec)

/-- 'kimberlitelaw01.SpanPoints', WHERE WHAT IT READS IS OF BULK AT MOST 1048576: true; the input reads as it did. -/
def spanPointsUptoRow : OpenClaim := { program := "ytningpmoojnomaa", sum := "edc4630f874d90a3be52be9896f19f5d5afd8f288455375247c8e82faf8ae476", func := "kimberlite/kimberlitelaw01.SpanPoints", spec := "spanPoints", unfollowed := true, recurses := true, apart := false, narrowed := true }
def SpanPointsUptoSaid : Prop := spanPointsUptoRow.holds Try.pinned (OpenSpec.upto spanPointsSpec)

/-- 'kimberlitelaw01.SpanTwo', WHERE WHAT IT READS IS OF BULK AT MOST 1048576: true; the input reads as it did. -/
def spanTwoUptoRow : OpenClaim := { program := "ytningpmoojnomaa", sum := "edc4630f874d90a3be52be9896f19f5d5afd8f288455375247c8e82faf8ae476", func := "kimberlite/kimberlitelaw01.SpanTwo", spec := "spanTwo", unfollowed := true, recurses := true, apart := false, narrowed := true }
def SpanTwoUptoSaid : Prop := spanTwoUptoRow.holds Try.pinned (OpenSpec.upto spanTwoSpec)

/-- 'kimberlitelaw01.SpanBoolean', WHERE WHAT IT READS IS OF BULK AT MOST 1048576: true; the input reads as it did. -/
def spanBooleanUptoRow : OpenClaim := { program := "ytningpmoojnomaa", sum := "edc4630f874d90a3be52be9896f19f5d5afd8f288455375247c8e82faf8ae476", func := "kimberlite/kimberlitelaw01.SpanBoolean", spec := "spanBoolean", unfollowed := true, recurses := true, apart := false, narrowed := true }
def SpanBooleanUptoSaid : Prop := spanBooleanUptoRow.holds Try.pinned (OpenSpec.upto spanBooleanSpec)

/-- 'kimberlitelaw01.SpanAdjoint', WHERE WHAT IT READS IS OF BULK AT MOST 1048576: true; the input reads as it did. -/
def spanAdjointUptoRow : OpenClaim := { program := "ytningpmoojnomaa", sum := "edc4630f874d90a3be52be9896f19f5d5afd8f288455375247c8e82faf8ae476", func := "kimberlite/kimberlitelaw01.SpanAdjoint", spec := "spanAdjoint", unfollowed := true, recurses := true, apart := false, narrowed := true }
def SpanAdjointUptoSaid : Prop := spanAdjointUptoRow.holds Try.pinned (OpenSpec.upto spanAdjointSpec)

/-- 'kimberlitelaw01.SpanMembers', WHERE WHAT IT READS IS OF BULK AT MOST 1048576: true; the input reads as it did. -/
def spanMembersUptoRow : OpenClaim := { program := "ytningpmoojnomaa", sum := "edc4630f874d90a3be52be9896f19f5d5afd8f288455375247c8e82faf8ae476", func := "kimberlite/kimberlitelaw01.SpanMembers", spec := "spanMembers", unfollowed := true, recurses := true, apart := false, narrowed := true }
def SpanMembersUptoSaid : Prop := spanMembersUptoRow.holds Try.pinned (OpenSpec.upto spanMembersSpec)

end Rows
end Go.Proofs.Ytningpmoojnomaa
