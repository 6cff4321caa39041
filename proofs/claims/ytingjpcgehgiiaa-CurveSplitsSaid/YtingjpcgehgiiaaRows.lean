/-
  No cell of these rows narrows 'for every input' (looked for: loops, veiled, ifaces, maps, wideKeys, modest, calm, conditions, laid).
  DERIVED. THE GIVEN ROWS OF THIS SEAT. 11 by the template 'for every input the law returns true; each argument reads behind the call as it read before'; 0 by the template 'total and deterministic' (their statements: YtingjpcgehgiiaaTotals.lean).
  GIVEN WITH THE SEED: the statements are not yours to turn. If you find one false, say at which input.
  Laid BY PROGRAM, IN A SANDBOX (cutbox-rows.mjs): the forced cells as the released guide's own fill.sh prints them over the translation df032fa277443318… (all of the seat's roots in one cut). By AI agents, Wed Nov 11 2026. No macro, syntax, notation, axiom, sorry.
-/
import Derived.Test.YtingjpcgehgiiaaChecked
import GoSem.Claim
import GoSem.ClaimJoined
import GoSem.ClaimMapViews
import Derived.JoinedTies
import Derived.KernelRfl
namespace Go.Proofs.Ytingjpcgehgiiaa
/- THE CELL 'sum', in the pinned program and in every row, IS THE sha256 OF THE DUMP (.gsa) THAT YtingjpcgehgiiaaProg.lean LOADS. Nothing in Lean hashes anything: it is a label: what it is worth is what the hold of that sum in a sandbox is worth. -/
noncomputable def Try.pinned : Pinned := { name := "ytingjpcgehgiiaa", sum := "df032fa277443318e8719a2b3b7dccfac0d2a3ea74a4d4b8fb9b4b0209e54a14", checked := Try.checked }
namespace Rows
def none {H : Type} : Left H := { results := [], args := [] }

/-- 'kimberlitelaw03.CurveJoins': WHATEVER THE INPUT: true; the input reads as it did. -/
def curveJoinsSpec : ChangeSpec := { name := "curveJoins", fn := fun _ => fun
  | [d1, d2, d3, d4, d5] => { results := [.lit (.bool true)], args := [d1, d2, d3, d4, d5] }
  | _ => none }
def curveJoinsRow : OpenClaim := { program := "ytingjpcgehgiiaa", sum := "df032fa277443318e8719a2b3b7dccfac0d2a3ea74a4d4b8fb9b4b0209e54a14", func := "kimberlite/kimberlitelaw03.CurveJoins", spec := "curveJoins", unfollowed := true, recurses := true, apart := false }
def CurveJoinsSaid : Prop := curveJoinsRow.holds Try.pinned (OpenSpec.ofChange curveJoinsSpec)

/-- ITS FALSE NEIGHBOUR: 'it returns false'. Refute it at one input. -/
def curveJoinsWrong : ChangeSpec := { name := "curveJoins", fn := fun _ => fun
  | [d1, d2, d3, d4, d5] => { results := [.lit (.bool false)], args := [d1, d2, d3, d4, d5] }
  | _ => none }
def CurveJoinsWrongFalsely : Prop := curveJoinsRow.holds Try.pinned (OpenSpec.ofChange curveJoinsWrong)

/-- 'kimberlitelaw03.CurveBest': WHATEVER THE INPUT: true; the input reads as it did. -/
def curveBestSpec : ChangeSpec := { name := "curveBest", fn := fun _ => fun
  | [d1, d2, d3] => { results := [.lit (.bool true)], args := [d1, d2, d3] }
  | _ => none }
def curveBestRow : OpenClaim := { program := "ytingjpcgehgiiaa", sum := "df032fa277443318e8719a2b3b7dccfac0d2a3ea74a4d4b8fb9b4b0209e54a14", func := "kimberlite/kimberlitelaw03.CurveBest", spec := "curveBest", unfollowed := true, recurses := true, apart := false }
def CurveBestSaid : Prop := curveBestRow.holds Try.pinned (OpenSpec.ofChange curveBestSpec)

/-- ITS FALSE NEIGHBOUR: 'it returns false'. Refute it at one input. -/
def curveBestWrong : ChangeSpec := { name := "curveBest", fn := fun _ => fun
  | [d1, d2, d3] => { results := [.lit (.bool false)], args := [d1, d2, d3] }
  | _ => none }
def CurveBestWrongFalsely : Prop := curveBestRow.holds Try.pinned (OpenSpec.ofChange curveBestWrong)

/-- 'kimberlitelaw03.CurveChain': WHATEVER THE INPUT: true; the input reads as it did. -/
def curveChainSpec : ChangeSpec := { name := "curveChain", fn := fun _ => fun
  | [d1, d2] => { results := [.lit (.bool true)], args := [d1, d2] }
  | _ => none }
def curveChainRow : OpenClaim := { program := "ytingjpcgehgiiaa", sum := "df032fa277443318e8719a2b3b7dccfac0d2a3ea74a4d4b8fb9b4b0209e54a14", func := "kimberlite/kimberlitelaw03.CurveChain", spec := "curveChain", unfollowed := true, recurses := true, apart := false }
def CurveChainSaid : Prop := curveChainRow.holds Try.pinned (OpenSpec.ofChange curveChainSpec)

/-- ITS FALSE NEIGHBOUR: 'it returns false'. Refute it at one input. -/
def curveChainWrong : ChangeSpec := { name := "curveChain", fn := fun _ => fun
  | [d1, d2] => { results := [.lit (.bool false)], args := [d1, d2] }
  | _ => none }
def CurveChainWrongFalsely : Prop := curveChainRow.holds Try.pinned (OpenSpec.ofChange curveChainWrong)

/-- 'kimberlitelaw03.CurveSplits': WHATEVER THE INPUT: true; the input reads as it did. -/
def curveSplitsSpec : ChangeSpec := { name := "curveSplits", fn := fun _ => fun
  | [d1, d2] => { results := [.lit (.bool true)], args := [d1, d2] }
  | _ => none }
def curveSplitsRow : OpenClaim := { program := "ytingjpcgehgiiaa", sum := "df032fa277443318e8719a2b3b7dccfac0d2a3ea74a4d4b8fb9b4b0209e54a14", func := "kimberlite/kimberlitelaw03.CurveSplits", spec := "curveSplits", unfollowed := true, recurses := true, apart := false }
def CurveSplitsSaid : Prop := curveSplitsRow.holds Try.pinned (OpenSpec.ofChange curveSplitsSpec)

/-- ITS FALSE NEIGHBOUR: 'it returns false'. Refute it at one input. -/
def curveSplitsWrong : ChangeSpec := { name := "curveSplits", fn := fun _ => fun
  | [d1, d2] => { results := [.lit (.bool false)], args := [d1, d2] }
  | _ => none }
def CurveSplitsWrongFalsely : Prop := curveSplitsRow.holds Try.pinned (OpenSpec.ofChange curveSplitsWrong)

/-- 'kimberlitelaw03.CurveFenchel': WHATEVER THE INPUT: true; the input reads as it did. -/
def curveFenchelSpec : ChangeSpec := { name := "curveFenchel", fn := fun _ => fun
  | [d1, d2, d3, d4] => { results := [.lit (.bool true)], args := [d1, d2, d3, d4] }
  | _ => none }
def curveFenchelRow : OpenClaim := { program := "ytingjpcgehgiiaa", sum := "df032fa277443318e8719a2b3b7dccfac0d2a3ea74a4d4b8fb9b4b0209e54a14", func := "kimberlite/kimberlitelaw03.CurveFenchel", spec := "curveFenchel", unfollowed := true, recurses := true, apart := false }
def CurveFenchelSaid : Prop := curveFenchelRow.holds Try.pinned (OpenSpec.ofChange curveFenchelSpec)

/-- ITS FALSE NEIGHBOUR: 'it returns false'. Refute it at one input. -/
def curveFenchelWrong : ChangeSpec := { name := "curveFenchel", fn := fun _ => fun
  | [d1, d2, d3, d4] => { results := [.lit (.bool false)], args := [d1, d2, d3, d4] }
  | _ => none }
def CurveFenchelWrongFalsely : Prop := curveFenchelRow.holds Try.pinned (OpenSpec.ofChange curveFenchelWrong)

/-- 'kimberlitelaw03.CurveValues': WHATEVER THE INPUT: true; the input reads as it did. -/
def curveValuesSpec : ChangeSpec := { name := "curveValues", fn := fun _ => fun
  | [d1, d2, d3, d4] => { results := [.lit (.bool true)], args := [d1, d2, d3, d4] }
  | _ => none }
def curveValuesRow : OpenClaim := { program := "ytingjpcgehgiiaa", sum := "df032fa277443318e8719a2b3b7dccfac0d2a3ea74a4d4b8fb9b4b0209e54a14", func := "kimberlite/kimberlitelaw03.CurveValues", spec := "curveValues", unfollowed := true, recurses := true, apart := false }
def CurveValuesSaid : Prop := curveValuesRow.holds Try.pinned (OpenSpec.ofChange curveValuesSpec)

/-- ITS FALSE NEIGHBOUR: 'it returns false'. Refute it at one input. -/
def curveValuesWrong : ChangeSpec := { name := "curveValues", fn := fun _ => fun
  | [d1, d2, d3, d4] => { results := [.lit (.bool false)], args := [d1, d2, d3, d4] }
  | _ => none }
def CurveValuesWrongFalsely : Prop := curveValuesRow.holds Try.pinned (OpenSpec.ofChange curveValuesWrong)

/-- 'kimberlitelaw03.CurveBottoms': WHATEVER THE INPUT: true; the input reads as it did. -/
def curveBottomsSpec : ChangeSpec := { name := "curveBottoms", fn := fun _ => fun
  | [d1, d2, d3] => { results := [.lit (.bool true)], args := [d1, d2, d3] }
  | _ => none }
def curveBottomsRow : OpenClaim := { program := "ytingjpcgehgiiaa", sum := "df032fa277443318e8719a2b3b7dccfac0d2a3ea74a4d4b8fb9b4b0209e54a14", func := "kimberlite/kimberlitelaw03.CurveBottoms", spec := "curveBottoms", unfollowed := true, recurses := true, apart := false }
def CurveBottomsSaid : Prop := curveBottomsRow.holds Try.pinned (OpenSpec.ofChange curveBottomsSpec)

/-- ITS FALSE NEIGHBOUR: 'it returns false'. Refute it at one input. -/
def curveBottomsWrong : ChangeSpec := { name := "curveBottoms", fn := fun _ => fun
  | [d1, d2, d3] => { results := [.lit (.bool false)], args := [d1, d2, d3] }
  | _ => none }
def CurveBottomsWrongFalsely : Prop := curveBottomsRow.holds Try.pinned (OpenSpec.ofChange curveBottomsWrong)

/-- 'kimberlitelaw03.CurveBack': WHATEVER THE INPUT: true; the input reads as it did. -/
def curveBackSpec : ChangeSpec := { name := "curveBack", fn := fun _ => fun
  | [d1, d2, d3, d4] => { results := [.lit (.bool true)], args := [d1, d2, d3, d4] }
  | _ => none }
def curveBackRow : OpenClaim := { program := "ytingjpcgehgiiaa", sum := "df032fa277443318e8719a2b3b7dccfac0d2a3ea74a4d4b8fb9b4b0209e54a14", func := "kimberlite/kimberlitelaw03.CurveBack", spec := "curveBack", unfollowed := true, recurses := true, apart := false }
def CurveBackSaid : Prop := curveBackRow.holds Try.pinned (OpenSpec.ofChange curveBackSpec)

/-- ITS FALSE NEIGHBOUR: 'it returns false'. Refute it at one input. -/
def curveBackWrong : ChangeSpec := { name := "curveBack", fn := fun _ => fun
  | [d1, d2, d3, d4] => { results := [.lit (.bool false)], args := [d1, d2, d3, d4] }
  | _ => none }
def CurveBackWrongFalsely : Prop := curveBackRow.holds Try.pinned (OpenSpec.ofChange curveBackWrong)

/-- 'kimberlitelaw03.CurveMakes': WHATEVER THE INPUT: true; the input reads as it did. -/
def curveMakesSpec : ChangeSpec := { name := "curveMakes", fn := fun _ => fun
  | [d1, d2, d3, d4, d5] => { results := [.lit (.bool true)], args := [d1, d2, d3, d4, d5] }
  | _ => none }
def curveMakesRow : OpenClaim := { program := "ytingjpcgehgiiaa", sum := "df032fa277443318e8719a2b3b7dccfac0d2a3ea74a4d4b8fb9b4b0209e54a14", func := "kimberlite/kimberlitelaw03.CurveMakes", spec := "curveMakes", unfollowed := true, recurses := true, apart := false }
def CurveMakesSaid : Prop := curveMakesRow.holds Try.pinned (OpenSpec.ofChange curveMakesSpec)

/-- ITS FALSE NEIGHBOUR: 'it returns false'. Refute it at one input. -/
def curveMakesWrong : ChangeSpec := { name := "curveMakes", fn := fun _ => fun
  | [d1, d2, d3, d4, d5] => { results := [.lit (.bool false)], args := [d1, d2, d3, d4, d5] }
  | _ => none }
def CurveMakesWrongFalsely : Prop := curveMakesRow.holds Try.pinned (OpenSpec.ofChange curveMakesWrong)

/-- 'kimberlitelaw03.CurveDual': WHATEVER THE INPUT: true; the input reads as it did. -/
def curveDualSpec : ChangeSpec := { name := "curveDual", fn := fun _ => fun
  | [d1, d2, d3, d4] => { results := [.lit (.bool true)], args := [d1, d2, d3, d4] }
  | _ => none }
def curveDualRow : OpenClaim := { program := "ytingjpcgehgiiaa", sum := "df032fa277443318e8719a2b3b7dccfac0d2a3ea74a4d4b8fb9b4b0209e54a14", func := "kimberlite/kimberlitelaw03.CurveDual", spec := "curveDual", unfollowed := true, recurses := true, apart := false }
def CurveDualSaid : Prop := curveDualRow.holds Try.pinned (OpenSpec.ofChange curveDualSpec)

/-- ITS FALSE NEIGHBOUR: 'it returns false'. Refute it at one input. -/
def curveDualWrong : ChangeSpec := { name := "curveDual", fn := fun _ => fun
  | [d1, d2, d3, d4] => { results := [.lit (.bool false)], args := [d1, d2, d3, d4] }
  | _ => none }
def CurveDualWrongFalsely : Prop := curveDualRow.holds Try.pinned (OpenSpec.ofChange curveDualWrong)

/-- 'kimberlitelaw03.CurveConvex': WHATEVER THE INPUT: true; the input reads as it did. -/
def curveConvexSpec : ChangeSpec := { name := "curveConvex", fn := fun _ => fun
  | [d1, d2, d3, d4, d5, d6] => { results := [.lit (.bool true)], args := [d1, d2, d3, d4, d5, d6] }
  | _ => none }
def curveConvexRow : OpenClaim := { program := "ytingjpcgehgiiaa", sum := "df032fa277443318e8719a2b3b7dccfac0d2a3ea74a4d4b8fb9b4b0209e54a14", func := "kimberlite/kimberlitelaw03.CurveConvex", spec := "curveConvex", unfollowed := true, recurses := true, apart := false }
def CurveConvexSaid : Prop := curveConvexRow.holds Try.pinned (OpenSpec.ofChange curveConvexSpec)

/-- ITS FALSE NEIGHBOUR: 'it returns false'. Refute it at one input. -/
def curveConvexWrong : ChangeSpec := { name := "curveConvex", fn := fun _ => fun
  | [d1, d2, d3, d4, d5, d6] => { results := [.lit (.bool false)], args := [d1, d2, d3, d4, d5, d6] }
  | _ => none }
def CurveConvexWrongFalsely : Prop := curveConvexRow.holds Try.pinned (OpenSpec.ofChange curveConvexWrong)

/- THE SECOND FORM. 'bulk': how many values and letters a reading holds, each counted each time it is reached (what is shared counts as often as it is met; a slice's spare places count too). A statement '..UptoSaid' is the law's where the arguments, and the package variables that the reading takes, are together of bulk at most 1048576: NARROWER than '..Said'. Prove '..Said' where nothing that the law and all that it calls make is longer than what came in: it says more and counts as full. Else prove '..UptoSaid'. A law counts once. -/
mutual
def uptoBulk {H : Type} : DataW H → Nat
  | .lit (.string bytes) => bytes.length + 1
  | .lit _ => 1
  | .nil => 1
  | .ptr d => uptoBulk d + 1
  | .slice elems spare => uptoBulkAll elems + uptoBulkAll spare + 1
  | .agg parts => uptoBulkAll parts + 1
  | .iface _ d => uptoBulk d + 1
  | .map entries => uptoBulkEntries entries + 1
  | .held _ => 1
def uptoBulkAll {H : Type} : List (DataW H) → Nat
  | [] => 0
  | d :: r => uptoBulk d + uptoBulkAll r
def uptoBulkEntries {H : Type} : List (Lit × DataW H) → Nat
  | [] => 0
  | x :: r => uptoBulkEntry x + uptoBulkEntries r
def uptoBulkEntry {H : Type} : Lit × DataW H → Nat
  | (.string bytes, d) => bytes.length + uptoBulk d + 1
  | (_, d) => uptoBulk d + 1
 end
def uptoSmall : (H : Type) → List (DataW H) → Bool := fun _ ds => decide (uptoBulkAll ds ≤ 1048576)
def OpenSpec.upto (s : _root_.Go.ChangeSpec) : _root_.Go.OpenSpec := { _root_.Go.OpenSpec.ofChange s with cond := some uptoSmall }

/-- 'kimberlitelaw03.CurveJoins', WHERE WHAT IT READS IS OF BULK AT MOST 1048576: true; the input reads as it did. -/
def curveJoinsUptoRow : OpenClaim := { program := "ytingjpcgehgiiaa", sum := "df032fa277443318e8719a2b3b7dccfac0d2a3ea74a4d4b8fb9b4b0209e54a14", func := "kimberlite/kimberlitelaw03.CurveJoins", spec := "curveJoins", unfollowed := true, recurses := true, apart := false, narrowed := true }
def CurveJoinsUptoSaid : Prop := curveJoinsUptoRow.holds Try.pinned (OpenSpec.upto curveJoinsSpec)

/-- 'kimberlitelaw03.CurveBest', WHERE WHAT IT READS IS OF BULK AT MOST 1048576: true; the input reads as it did. -/
def curveBestUptoRow : OpenClaim := { program := "ytingjpcgehgiiaa", sum := "df032fa277443318e8719a2b3b7dccfac0d2a3ea74a4d4b8fb9b4b0209e54a14", func := "kimberlite/kimberlitelaw03.CurveBest", spec := "curveBest", unfollowed := true, recurses := true, apart := false, narrowed := true }
def CurveBestUptoSaid : Prop := curveBestUptoRow.holds Try.pinned (OpenSpec.upto curveBestSpec)

/-- 'kimberlitelaw03.CurveChain', WHERE WHAT IT READS IS OF BULK AT MOST 1048576: true; the input reads as it did. -/
def curveChainUptoRow : OpenClaim := { program := "ytingjpcgehgiiaa", sum := "df032fa277443318e8719a2b3b7dccfac0d2a3ea74a4d4b8fb9b4b0209e54a14", func := "kimberlite/kimberlitelaw03.CurveChain", spec := "curveChain", unfollowed := true, recurses := true, apart := false, narrowed := true }
def CurveChainUptoSaid : Prop := curveChainUptoRow.holds Try.pinned (OpenSpec.upto curveChainSpec)

/-- 'kimberlitelaw03.CurveSplits', WHERE WHAT IT READS IS OF BULK AT MOST 1048576: true; the input reads as it did. -/
def curveSplitsUptoRow : OpenClaim := { program := "ytingjpcgehgiiaa", sum := "df032fa277443318e8719a2b3b7dccfac0d2a3ea74a4d4b8fb9b4b0209e54a14", func := "kimberlite/kimberlitelaw03.CurveSplits", spec := "curveSplits", unfollowed := true, recurses := true, apart := false, narrowed := true }
def CurveSplitsUptoSaid : Prop := curveSplitsUptoRow.holds Try.pinned (OpenSpec.upto curveSplitsSpec)

/-- 'kimberlitelaw03.CurveFenchel', WHERE WHAT IT READS IS OF BULK AT MOST 1048576: true; the input reads as it did. -/
def curveFenchelUptoRow : OpenClaim := { program := "ytingjpcgehgiiaa", sum := "df032fa277443318e8719a2b3b7dccfac0d2a3ea74a4d4b8fb9b4b0209e54a14", func := "kimberlite/kimberlitelaw03.CurveFenchel", spec := "curveFenchel", unfollowed := true, recurses := true, apart := false, narrowed := true }
def CurveFenchelUptoSaid : Prop := curveFenchelUptoRow.holds Try.pinned (OpenSpec.upto curveFenchelSpec)

/-- 'kimberlitelaw03.CurveValues', WHERE WHAT IT READS IS OF BULK AT MOST 1048576: true; the input reads as it did. -/
def curveValuesUptoRow : OpenClaim := { program := "ytingjpcgehgiiaa", sum := "df032fa277443318e8719a2b3b7dccfac0d2a3ea74a4d4b8fb9b4b0209e54a14", func := "kimberlite/kimberlitelaw03.CurveValues", spec := "curveValues", unfollowed := true, recurses := true, apart := false, narrowed := true }
def CurveValuesUptoSaid : Prop := curveValuesUptoRow.holds Try.pinned (OpenSpec.upto curveValuesSpec)

/-- 'kimberlitelaw03.CurveBottoms', WHERE WHAT IT READS IS OF BULK AT MOST 1048576: true; the input reads as it did. -/
def curveBottomsUptoRow : OpenClaim := { program := "ytingjpcgehgiiaa", sum := "df032fa277443318e8719a2b3b7dccfac0d2a3ea74a4d4b8fb9b4b0209e54a14", func := "kimberlite/kimberlitelaw03.CurveBottoms", spec := "curveBottoms", unfollowed := true, recurses := true, apart := false, narrowed := true }
def CurveBottomsUptoSaid : Prop := curveBottomsUptoRow.holds Try.pinned (OpenSpec.upto curveBottomsSpec)

/-- 'kimberlitelaw03.CurveBack', WHERE WHAT IT READS IS OF BULK AT MOST 1048576: true; the input reads as it did. -/
def curveBackUptoRow : OpenClaim := { program := "ytingjpcgehgiiaa", sum := "df032fa277443318e8719a2b3b7dccfac0d2a3ea74a4d4b8fb9b4b0209e54a14", func := "kimberlite/kimberlitelaw03.CurveBack", spec := "curveBack", unfollowed := true, recurses := true, apart := false, narrowed := true }
def CurveBackUptoSaid : Prop := curveBackUptoRow.holds Try.pinned (OpenSpec.upto curveBackSpec)

/-- 'kimberlitelaw03.CurveMakes', WHERE WHAT IT READS IS OF BULK AT MOST 1048576: true; the input reads as it did. -/
def curveMakesUptoRow : OpenClaim := { program := "ytingjpcgehgiiaa", sum := "df032fa277443318e8719a2b3b7dccfac0d2a3ea74a4d4b8fb9b4b0209e54a14", func := "kimberlite/kimberlitelaw03.CurveMakes", spec := "curveMakes", unfollowed := true, recurses := true, apart := false, narrowed := true }
def CurveMakesUptoSaid : Prop := curveMakesUptoRow.holds Try.pinned (OpenSpec.upto curveMakesSpec)

/-- 'kimberlitelaw03.CurveDual', WHERE WHAT IT READS IS OF BULK AT MOST 1048576: true; the input reads as it did. -/
def curveDualUptoRow : OpenClaim := { program := "ytingjpcgehgiiaa", sum := "df032fa277443318e8719a2b3b7dccfac0d2a3ea74a4d4b8fb9b4b0209e54a14", func := "kimberlite/kimberlitelaw03.CurveDual", spec := "curveDual", unfollowed := true, recurses := true, apart := false, narrowed := true }
def CurveDualUptoSaid : Prop := curveDualUptoRow.holds Try.pinned (OpenSpec.upto curveDualSpec)

/-- 'kimberlitelaw03.CurveConvex', WHERE WHAT IT READS IS OF BULK AT MOST 1048576: true; the input reads as it did. -/
def curveConvexUptoRow : OpenClaim := { program := "ytingjpcgehgiiaa", sum := "df032fa277443318e8719a2b3b7dccfac0d2a3ea74a4d4b8fb9b4b0209e54a14", func := "kimberlite/kimberlitelaw03.CurveConvex", spec := "curveConvex", unfollowed := true, recurses := true, apart := false, narrowed := true }
def CurveConvexUptoSaid : Prop := curveConvexUptoRow.holds Try.pinned (OpenSpec.upto curveConvexSpec)

end Rows
end Go.Proofs.Ytingjpcgehgiiaa
