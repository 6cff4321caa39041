/- What the proof of the law needs, trimmed and merged by wip/pack.py out of the texts YtmomcbhgggggnaaGreatDoorExtReg, YtmomcbhgggggnaaGreatDoorExtPcs, YtmomcbhgggggnaaGreatDoorExtCho, YtmomcbhgggggnaaGreatDoorExtTwo. No condition. -/
import Derived.WalkKit
import Derived.OwnWalkIn
import Derived.TacticsInMore
import Derived.Deep.RegionHeld3
import Derived.Tactics2
import Derived.Shelf.RegionOpen
import Derived.RangeFuncBox
import Derived.RangeFuncNested
import Derived.RangeFuncBound
import Derived.RangeFuncCalls
import Derived.RangeFuncLeaves
import Derived.Shelf.Abstract
import Derived.LoopNIn
import Derived.LoopIn
import Derived.Maps.AppendAt
import Derived.Sort.CutIn
import Derived.Test.YtmomcbhgggggnaaGreatDoorKSpanCounts0
import Derived.Test.YtmomcbhgggggnaaGreatDoorKSpanCounts1
import Derived.Test.YtmomcbhgggggnaaGreatDoorKSpanCounts2
import Derived.Test.YtmomcbhgggggnaaGreatDoorKSpanCounts3
import Derived.Test.YtmomcbhgggggnaaGreatDoorKSpanCounts4
section
namespace Go.Proofs.YtmomcbhgggggnaaGreatDoor.Pr
open Go.RowKit Go.Shelf Go.Proofs.YtmomcbhgggggnaaGreatDoorW.PrintWords Go.Proofs.YtmomcbhgggggnaaGreatDoorW.PrintLast Go.Proofs.YtmomcbhgggggnaaGreatDoorW.PrintMore
set_option linter.unusedVariables false
set_option linter.unusedSimpArgs false
def ops21 : Array Oper := #[{ dst := some 81, op := Op.move (Operand.tmp 9), type := 3, pos := "set.go:83", after := #[], guard := none },
        { dst := some 82, op := Op.load 22 (Operand.tmp 1), type := 22, pos := "set.go:83", after := #[],
          guard := none },
        { dst := some 83,
          op := Op.call { callee := Callee.builtin Builtin.len, args := #[Operand.tmp 82], argTypes := #[22] },
          type := 3, pos := "set.go:83", after := #[{ on := 1, ground := Ground.data }], guard := none },
        { dst := some 84, op := Op.binOp BinOp.lss 3 (Operand.tmp 81) (Operand.tmp 83) 3, type := 4, pos := "set.go:83",
          after := #[{ on := 0, ground := Ground.data }, { on := 2, ground := Ground.data }], guard := none },
        { dst := some 85, op := Op.move (Operand.tmp 84), type := 4, pos := "set.go:83",
          after := #[{ on := 3, ground := Ground.data }], guard := none },
        { dst := some 86, op := Op.load 22 (Operand.tmp 1), type := 22, pos := "set.go:83",
          after := #[{ on := 4, ground := Ground.guard }], guard := some (4, true) },
        { dst := some 87, op := Op.move (Operand.tmp 9), type := 3, pos := "set.go:83",
          after := #[{ on := 4, ground := Ground.guard }], guard := some (4, true) },
        { dst := some 88, op := Op.indexAddr 22 (Operand.tmp 86) (Operand.tmp 87), type := 0, pos := "set.go:83",
          after :=
            #[{ on := 5, ground := Ground.data }, { on := 6, ground := Ground.data },
              { on := 4, ground := Ground.guard }],
          guard := some (4, true) },
        { dst := some 89, op := Op.fieldAddr 41 (Operand.tmp 88) 0, type := 0, pos := "set.go:83",
          after := #[{ on := 7, ground := Ground.data }, { on := 4, ground := Ground.guard }],
          guard := some (4, true) },
        { dst := some 90, op := Op.load 3 (Operand.tmp 89), type := 3, pos := "set.go:83",
          after := #[{ on := 8, ground := Ground.data }, { on := 4, ground := Ground.guard }],
          guard := some (4, true) },
        { dst := some 91, op := Op.move (Operand.tmp 12), type := 3, pos := "set.go:83",
          after := #[{ on := 4, ground := Ground.guard }], guard := some (4, true) },
        { dst := some 92, op := Op.binOp BinOp.leq 3 (Operand.tmp 90) (Operand.tmp 91) 3, type := 4, pos := "set.go:83",
          after :=
            #[{ on := 9, ground := Ground.data }, { on := 10, ground := Ground.data },
              { on := 4, ground := Ground.guard }],
          guard := some (4, true) },
        { dst := some 93, op := Op.pick (Operand.tmp 85) (Operand.tmp 92) (Operand.const (Value.bool false)), type := 4,
          pos := "set.go:83", after := #[{ on := 4, ground := Ground.data }, { on := 11, ground := Ground.data }],
          guard := none },
        { dst := some 94, op := Op.move (Operand.tmp 10), type := 3, pos := "set.go:83", after := #[], guard := none },
        { dst := some 95, op := Op.load 22 (Operand.tmp 2), type := 22, pos := "set.go:83", after := #[],
          guard := none },
        { dst := some 96,
          op := Op.call { callee := Callee.builtin Builtin.len, args := #[Operand.tmp 95], argTypes := #[22] },
          type := 3, pos := "set.go:83", after := #[{ on := 14, ground := Ground.data }], guard := none },
        { dst := some 97, op := Op.binOp BinOp.lss 3 (Operand.tmp 94) (Operand.tmp 96) 3, type := 4, pos := "set.go:83",
          after := #[{ on := 13, ground := Ground.data }, { on := 15, ground := Ground.data }], guard := none },
        { dst := some 98, op := Op.move (Operand.tmp 97), type := 4, pos := "set.go:83",
          after := #[{ on := 16, ground := Ground.data }, { on := 4, ground := Ground.chain }], guard := none },
        { dst := some 99, op := Op.load 22 (Operand.tmp 2), type := 22, pos := "set.go:83",
          after := #[{ on := 17, ground := Ground.guard }], guard := some (17, true) },
        { dst := some 100, op := Op.move (Operand.tmp 10), type := 3, pos := "set.go:83",
          after := #[{ on := 17, ground := Ground.guard }], guard := some (17, true) },
        { dst := some 101, op := Op.indexAddr 22 (Operand.tmp 99) (Operand.tmp 100), type := 0, pos := "set.go:83",
          after :=
            #[{ on := 18, ground := Ground.data }, { on := 19, ground := Ground.data },
              { on := 17, ground := Ground.guard }],
          guard := some (17, true) },
        { dst := some 102, op := Op.fieldAddr 41 (Operand.tmp 101) 0, type := 0, pos := "set.go:83",
          after := #[{ on := 20, ground := Ground.data }, { on := 17, ground := Ground.guard }],
          guard := some (17, true) },
        { dst := some 103, op := Op.load 3 (Operand.tmp 102), type := 3, pos := "set.go:83",
          after := #[{ on := 21, ground := Ground.data }, { on := 17, ground := Ground.guard }],
          guard := some (17, true) },
        { dst := some 104, op := Op.move (Operand.tmp 12), type := 3, pos := "set.go:83",
          after := #[{ on := 17, ground := Ground.guard }], guard := some (17, true) },
        { dst := some 105, op := Op.binOp BinOp.leq 3 (Operand.tmp 103) (Operand.tmp 104) 3, type := 4,
          pos := "set.go:83",
          after :=
            #[{ on := 22, ground := Ground.data }, { on := 23, ground := Ground.data },
              { on := 17, ground := Ground.guard }],
          guard := some (17, true) },
        { dst := some 106, op := Op.pick (Operand.tmp 98) (Operand.tmp 105) (Operand.const (Value.bool false)),
          type := 4, pos := "set.go:83",
          after := #[{ on := 17, ground := Ground.data }, { on := 24, ground := Ground.data }], guard := none },
        { dst := some 107, op := Op.build 80 #[(0, Operand.tmp 93), (1, Operand.tmp 106)], type := 80,
          pos := "set.go:83", after := #[{ on := 12, ground := Ground.data }, { on := 25, ground := Ground.data }],
          guard := none },
        { dst := some 13, op := Op.alloc 80, type := 0, pos := "set.go:83", after := #[], guard := none },
        { dst := none, op := Op.store 80 (Operand.tmp 13) (Operand.tmp 107), type := 0, pos := "set.go:83",
          after :=
            #[{ on := 27, ground := Ground.data }, { on := 26, ground := Ground.data },
              { on := 17, ground := Ground.chain }, { on := 0, ground := Ground.phase },
              { on := 1, ground := Ground.phase }, { on := 2, ground := Ground.phase },
              { on := 3, ground := Ground.phase }, { on := 4, ground := Ground.phase },
              { on := 5, ground := Ground.phase }, { on := 6, ground := Ground.phase },
              { on := 7, ground := Ground.phase }, { on := 8, ground := Ground.phase },
              { on := 9, ground := Ground.phase }, { on := 10, ground := Ground.phase },
              { on := 11, ground := Ground.phase }, { on := 12, ground := Ground.phase },
              { on := 13, ground := Ground.phase }, { on := 14, ground := Ground.phase },
              { on := 15, ground := Ground.phase }, { on := 16, ground := Ground.phase },
              { on := 17, ground := Ground.phase }, { on := 18, ground := Ground.phase },
              { on := 19, ground := Ground.phase }, { on := 20, ground := Ground.phase },
              { on := 21, ground := Ground.phase }, { on := 22, ground := Ground.phase },
              { on := 23, ground := Ground.phase }, { on := 24, ground := Ground.phase },
              { on := 25, ground := Ground.phase }, { on := 26, ground := Ground.phase },
              { on := 27, ground := Ground.phase }],
          guard := none }]
set_option maxRecDepth 100000 in
set_option maxHeartbeats 20000000 in
theorem reg21_tt {Q : Exit → Act → World → Prop} {B0 B1 i k na nb c0 c1 : Nat} {ad : Addr} {y0 : Int} {ad2 : Addr} {z0 : Int} {at_ : Int} {x0 x3 x4 x5 x6 x7 x8 x11 x13 x14 x15 x16 x17 x18 x19 x20 x21 x22 x23 x24 x25 x26 x27 x28 x29 x30 x31 x32 x33 x34 x35 x36 x37 x38 x39 x40 x41 x42 x43 x44 x45 x46 x47 x48 x49 x50 x51 x52 x53 x54 x55 x56 x57 x58 x59 x60 x61 x62 x63 x64 x65 x66 x67 x68 x69 x70 x71 x72 x73 x74 x75 x76 x77 x78 x79 x80 x81 x82 x83 x84 x85 x86 x87 x88 x89 x90 x91 x92 x93 x94 x95 x96 x97 x98 x99 x100 x101 x102 x103 x104 x105 x106 x107 x108 x109 x110 x111 x112 x113 x114 x115 x116 x117 x118 : Value} {wr : World}
    (hbx0 : wr.cell? ⟨B0, 0, none⟩ = some (.slice (some ad) na c0)) (hbx1 : wr.cell? ⟨B1, 0, none⟩ = some (.slice (some ad2) nb c1)) (HK0 : Aside0 (∀ o, (wr.alloc o).cell? ⟨B0, 0, none⟩ = some (.slice (some ad) na c0))) (HK1 : Aside0 (∀ o, (wr.alloc o).cell? ⟨B1, 0, none⟩ = some (.slice (some ad2) nb c1)))
    (hx0 : wr.cell? (ad.add (i * 2)) = some (.int .i64 y0)) (HKa : Aside0 (∀ o, (wr.alloc o).cell? (ad.add (i * 2)) = some (.int .i64 y0)))
    (hx2 : wr.cell? (ad2.add (k * 2)) = some (.int .i64 z0)) (HKb : Aside0 (∀ o, (wr.alloc o).cell? (ad2.add (k * 2)) = some (.int .i64 z0)))
    (hilz : (i : Int) < (na : Int)) (hklz : (k : Int) < (nb : Int))
    (hP : ∀ c (a : Act) tm w, Q (.panic c) { a with tmps := tm } w → Q (.panic c) a w) (hK : ∀ u81 u82 u83 u84 u85 u86 u87 u88 u89 u90 u91 u92 u93 u94 u95 u96 u97 u98 u99 u100 u101 u102 u103 u104 u105 u106 u107 : Value, Q .normal { tmps := #[x0, .pointer (some ⟨B0, 0, none⟩), .pointer (some ⟨B1, 0, none⟩), x3, x4, x5, x6, x7, x8, .int .i64 (i : Int), .int .i64 (k : Int), x11, .int .i64 at_, .pointer (some ⟨wr.heap.size, 0, none⟩), x14, x15, x16, x17, x18, x19, x20, x21, x22, x23, x24, x25, x26, x27, x28, x29, x30, x31, x32, x33, x34, x35, x36, x37, x38, x39, x40, x41, x42, x43, x44, x45, x46, x47, x48, x49, x50, x51, x52, x53, x54, x55, x56, x57, x58, x59, x60, x61, x62, x63, x64, x65, x66, x67, x68, x69, x70, x71, x72, x73, x74, x75, x76, x77, x78, x79, x80, u81, u82, u83, u84, u85, u86, u87, u88, u89, u90, u91, u92, u93, u94, u95, u96, u97, u98, u99, u100, u101, u102, u103, u104, u105, u106, u107, x108, x109, x110, x111, x112, x113, x114, x115, x116, x117, x118], defers := [] } ((wr.alloc (.cells #[.bool (decide (y0 ≤ at_)), .bool (decide (z0 ≤ at_))] 80)).drew)) :
    Code.wp Tryz.prog (Code.region 21 ops21 true) Q { tmps := #[x0, .pointer (some ⟨B0, 0, none⟩), .pointer (some ⟨B1, 0, none⟩), x3, x4, x5, x6, x7, x8, .int .i64 (i : Int), .int .i64 (k : Int), x11, .int .i64 at_, x13, x14, x15, x16, x17, x18, x19, x20, x21, x22, x23, x24, x25, x26, x27, x28, x29, x30, x31, x32, x33, x34, x35, x36, x37, x38, x39, x40, x41, x42, x43, x44, x45, x46, x47, x48, x49, x50, x51, x52, x53, x54, x55, x56, x57, x58, x59, x60, x61, x62, x63, x64, x65, x66, x67, x68, x69, x70, x71, x72, x73, x74, x75, x76, x77, x78, x79, x80, x81, x82, x83, x84, x85, x86, x87, x88, x89, x90, x91, x92, x93, x94, x95, x96, x97, x98, x99, x100, x101, x102, x103, x104, x105, x106, x107, x108, x109, x110, x111, x112, x113, x114, x115, x116, x117, x118], defers := [] } wr := by
  have hu80 := Tryz.underlying80
  have hi1 : i < na := Int.ofNat_lt.1 hilz
  have hk1 : k < nb := Int.ofNat_lt.1 hklz
  unfold ops21
  refine wp_region_held_drew (S := fun w' => w'.cell? ⟨B0, 0, none⟩ = some (.slice (some ad) na c0) ∧ w'.cell? ⟨B1, 0, none⟩ = some (.slice (some ad2) nb c1) ∧ w'.cell? (ad.add (i * 2)) = some (.int .i64 y0) ∧ w'.cell? (ad2.add (k * 2)) = some (.int .i64 z0)) (by kernel_rfl) ⟨hbx0, hbx1, hx0, hx2⟩ (fun hS => ?_)
  refine wpAnyH_take (i := 0) (v := ?_) rfl (by kernel_rfl) (by kernel_rfl) (by kernel_rfl) (fun _ _ _ h => hP _ _ _ _ h) (Or.inl ⟨by kernel_rfl, ?_⟩) hS ?_
  rotate_left
  · intro w hSw; (try dsimp only at hSw); go_simp; try with_reducible rfl
  try simp only [Act.put, List.setIfInBounds_toArray, List.set_cons_zero, List.set_cons_succ]
  refine wpAnyH_take (i := 1) (v := ?_) rfl (by kernel_rfl) (by kernel_rfl) (by kernel_rfl) (fun _ _ _ h => hP _ _ _ _ h) (Or.inl ⟨by kernel_rfl, ?_⟩) hS ?_
  rotate_left
  · intro w hSw; (try dsimp only at hSw); go_simp; try with_reducible rfl
  try simp only [Act.put, List.setIfInBounds_toArray, List.set_cons_zero, List.set_cons_succ]
  refine wpAnyH_take (i := 2) (v := ?_) rfl (by kernel_rfl) (by kernel_rfl) (by kernel_rfl) (fun _ _ _ h => hP _ _ _ _ h) (Or.inl ⟨by kernel_rfl, ?_⟩) hS ?_
  rotate_left
  · intro w hSw; (try dsimp only at hSw); go_simp; try with_reducible rfl
  try simp only [Act.put, List.setIfInBounds_toArray, List.set_cons_zero, List.set_cons_succ]
  refine wpAnyH_take (i := 3) (v := ?_) rfl (by kernel_rfl) (by kernel_rfl) (by kernel_rfl) (fun _ _ _ h => hP _ _ _ _ h) (Or.inl ⟨by kernel_rfl, ?_⟩) hS ?_
  rotate_left
  · intro w hSw; (try dsimp only at hSw); go_simp; try with_reducible rfl
  try simp only [Act.put, List.setIfInBounds_toArray, List.set_cons_zero, List.set_cons_succ]
  refine wpAnyH_take (i := 4) (v := ?_) rfl (by kernel_rfl) (by kernel_rfl) (by kernel_rfl) (fun _ _ _ h => hP _ _ _ _ h) (Or.inl ⟨by kernel_rfl, ?_⟩) hS ?_
  rotate_left
  · intro w hSw; (try dsimp only at hSw); go_simp; try with_reducible rfl
  try simp only [Act.put, List.setIfInBounds_toArray, List.set_cons_zero, List.set_cons_succ]
  refine wpAnyH_take (i := 5) (v := ?_) rfl (by kernel_rfl) (by kernel_rfl) (by kernel_rfl) (fun _ _ _ h => hP _ _ _ _ h) (Or.inl ⟨by kernel_rfl, ?_⟩) hS ?_
  rotate_left
  · intro w hSw; (try dsimp only at hSw); go_simp; try with_reducible rfl
  try simp only [Act.put, List.setIfInBounds_toArray, List.set_cons_zero, List.set_cons_succ]
  refine wpAnyH_take (i := 6) (v := ?_) rfl (by kernel_rfl) (by kernel_rfl) (by kernel_rfl) (fun _ _ _ h => hP _ _ _ _ h) (Or.inl ⟨by kernel_rfl, ?_⟩) hS ?_
  rotate_left
  · intro w hSw; (try dsimp only at hSw); go_simp; try with_reducible rfl
  try simp only [Act.put, List.setIfInBounds_toArray, List.set_cons_zero, List.set_cons_succ]
  refine wpAnyH_take (i := 7) (v := ?_) rfl (by kernel_rfl) (by kernel_rfl) (by kernel_rfl) (fun _ _ _ h => hP _ _ _ _ h) (Or.inl ⟨by kernel_rfl, ?_⟩) hS ?_
  rotate_left
  · intro w hSw; (try dsimp only at hSw); go_simp; try with_reducible rfl
  try simp only [Act.put, List.setIfInBounds_toArray, List.set_cons_zero, List.set_cons_succ]
  refine wpAnyH_take (i := 8) (v := ?_) rfl (by kernel_rfl) (by kernel_rfl) (by kernel_rfl) (fun _ _ _ h => hP _ _ _ _ h) (Or.inl ⟨by kernel_rfl, ?_⟩) hS ?_
  rotate_left
  · intro w hSw; (try dsimp only at hSw); go_simp; try with_reducible rfl
  try simp only [Act.put, List.setIfInBounds_toArray, List.set_cons_zero, List.set_cons_succ]
  refine wpAnyH_take (i := 9) (v := ?_) rfl (by kernel_rfl) (by kernel_rfl) (by kernel_rfl) (fun _ _ _ h => hP _ _ _ _ h) (Or.inl ⟨by kernel_rfl, ?_⟩) hS ?_
  rotate_left
  · intro w hSw; (try dsimp only at hSw); go_simp; try with_reducible rfl
  try simp only [Act.put, List.setIfInBounds_toArray, List.set_cons_zero, List.set_cons_succ]
  refine wpAnyH_take (i := 10) (v := ?_) rfl (by kernel_rfl) (by kernel_rfl) (by kernel_rfl) (fun _ _ _ h => hP _ _ _ _ h) (Or.inl ⟨by kernel_rfl, ?_⟩) hS ?_
  rotate_left
  · intro w hSw; (try dsimp only at hSw); go_simp; try with_reducible rfl
  try simp only [Act.put, List.setIfInBounds_toArray, List.set_cons_zero, List.set_cons_succ]
  refine wpAnyH_take (i := 11) (v := ?_) rfl (by kernel_rfl) (by kernel_rfl) (by kernel_rfl) (fun _ _ _ h => hP _ _ _ _ h) (Or.inl ⟨by kernel_rfl, ?_⟩) hS ?_
  rotate_left
  · intro w hSw; (try dsimp only at hSw); go_simp; try with_reducible rfl
  try simp only [Act.put, List.setIfInBounds_toArray, List.set_cons_zero, List.set_cons_succ]
  refine wpAnyH_take (i := 12) (v := ?_) rfl (by kernel_rfl) (by kernel_rfl) (by kernel_rfl) (fun _ _ _ h => hP _ _ _ _ h) (Or.inl ⟨by kernel_rfl, ?_⟩) hS ?_
  rotate_left
  · intro w hSw; (try dsimp only at hSw); go_simp; try with_reducible rfl
  try simp only [Act.put, List.setIfInBounds_toArray, List.set_cons_zero, List.set_cons_succ]
  refine wpAnyH_take (i := 13) (v := ?_) rfl (by kernel_rfl) (by kernel_rfl) (by kernel_rfl) (fun _ _ _ h => hP _ _ _ _ h) (Or.inl ⟨by kernel_rfl, ?_⟩) hS ?_
  rotate_left
  · intro w hSw; (try dsimp only at hSw); go_simp; try with_reducible rfl
  try simp only [Act.put, List.setIfInBounds_toArray, List.set_cons_zero, List.set_cons_succ]
  refine wpAnyH_take (i := 14) (v := ?_) rfl (by kernel_rfl) (by kernel_rfl) (by kernel_rfl) (fun _ _ _ h => hP _ _ _ _ h) (Or.inl ⟨by kernel_rfl, ?_⟩) hS ?_
  rotate_left
  · intro w hSw; (try dsimp only at hSw); go_simp; try with_reducible rfl
  try simp only [Act.put, List.setIfInBounds_toArray, List.set_cons_zero, List.set_cons_succ]
  refine wpAnyH_take (i := 15) (v := ?_) rfl (by kernel_rfl) (by kernel_rfl) (by kernel_rfl) (fun _ _ _ h => hP _ _ _ _ h) (Or.inl ⟨by kernel_rfl, ?_⟩) hS ?_
  rotate_left
  · intro w hSw; (try dsimp only at hSw); go_simp; try with_reducible rfl
  try simp only [Act.put, List.setIfInBounds_toArray, List.set_cons_zero, List.set_cons_succ]
  refine wpAnyH_take (i := 16) (v := ?_) rfl (by kernel_rfl) (by kernel_rfl) (by kernel_rfl) (fun _ _ _ h => hP _ _ _ _ h) (Or.inl ⟨by kernel_rfl, ?_⟩) hS ?_
  rotate_left
  · intro w hSw; (try dsimp only at hSw); go_simp; try with_reducible rfl
  try simp only [Act.put, List.setIfInBounds_toArray, List.set_cons_zero, List.set_cons_succ]
  refine wpAnyH_take (i := 17) (v := ?_) rfl (by kernel_rfl) (by kernel_rfl) (by kernel_rfl) (fun _ _ _ h => hP _ _ _ _ h) (Or.inl ⟨by kernel_rfl, ?_⟩) hS ?_
  rotate_left
  · intro w hSw; (try dsimp only at hSw); go_simp; try with_reducible rfl
  try simp only [Act.put, List.setIfInBounds_toArray, List.set_cons_zero, List.set_cons_succ]
  refine wpAnyH_take (i := 18) (v := ?_) rfl (by kernel_rfl) (by kernel_rfl) (by kernel_rfl) (fun _ _ _ h => hP _ _ _ _ h) (Or.inl ⟨by kernel_rfl, ?_⟩) hS ?_
  rotate_left
  · intro w hSw; (try dsimp only at hSw); go_simp; try with_reducible rfl
  try simp only [Act.put, List.setIfInBounds_toArray, List.set_cons_zero, List.set_cons_succ]
  refine wpAnyH_take (i := 19) (v := ?_) rfl (by kernel_rfl) (by kernel_rfl) (by kernel_rfl) (fun _ _ _ h => hP _ _ _ _ h) (Or.inl ⟨by kernel_rfl, ?_⟩) hS ?_
  rotate_left
  · intro w hSw; (try dsimp only at hSw); go_simp; try with_reducible rfl
  try simp only [Act.put, List.setIfInBounds_toArray, List.set_cons_zero, List.set_cons_succ]
  refine wpAnyH_take (i := 20) (v := ?_) rfl (by kernel_rfl) (by kernel_rfl) (by kernel_rfl) (fun _ _ _ h => hP _ _ _ _ h) (Or.inl ⟨by kernel_rfl, ?_⟩) hS ?_
  rotate_left
  · intro w hSw; (try dsimp only at hSw); go_simp; try with_reducible rfl
  try simp only [Act.put, List.setIfInBounds_toArray, List.set_cons_zero, List.set_cons_succ]
  refine wpAnyH_take (i := 21) (v := ?_) rfl (by kernel_rfl) (by kernel_rfl) (by kernel_rfl) (fun _ _ _ h => hP _ _ _ _ h) (Or.inl ⟨by kernel_rfl, ?_⟩) hS ?_
  rotate_left
  · intro w hSw; (try dsimp only at hSw); go_simp; try with_reducible rfl
  try simp only [Act.put, List.setIfInBounds_toArray, List.set_cons_zero, List.set_cons_succ]
  refine wpAnyH_take (i := 22) (v := ?_) rfl (by kernel_rfl) (by kernel_rfl) (by kernel_rfl) (fun _ _ _ h => hP _ _ _ _ h) (Or.inl ⟨by kernel_rfl, ?_⟩) hS ?_
  rotate_left
  · intro w hSw; (try dsimp only at hSw); go_simp; try with_reducible rfl
  try simp only [Act.put, List.setIfInBounds_toArray, List.set_cons_zero, List.set_cons_succ]
  refine wpAnyH_take (i := 23) (v := ?_) rfl (by kernel_rfl) (by kernel_rfl) (by kernel_rfl) (fun _ _ _ h => hP _ _ _ _ h) (Or.inl ⟨by kernel_rfl, ?_⟩) hS ?_
  rotate_left
  · intro w hSw; (try dsimp only at hSw); go_simp; try with_reducible rfl
  try simp only [Act.put, List.setIfInBounds_toArray, List.set_cons_zero, List.set_cons_succ]
  refine wpAnyH_take (i := 24) (v := ?_) rfl (by kernel_rfl) (by kernel_rfl) (by kernel_rfl) (fun _ _ _ h => hP _ _ _ _ h) (Or.inl ⟨by kernel_rfl, ?_⟩) hS ?_
  rotate_left
  · intro w hSw; (try dsimp only at hSw); go_simp; try with_reducible rfl
  try simp only [Act.put, List.setIfInBounds_toArray, List.set_cons_zero, List.set_cons_succ]
  refine wpAnyH_take (i := 25) (v := ?_) rfl (by kernel_rfl) (by kernel_rfl) (by kernel_rfl) (fun _ _ _ h => hP _ _ _ _ h) (Or.inl ⟨by kernel_rfl, ?_⟩) hS ?_
  rotate_left
  · intro w hSw; (try dsimp only at hSw); go_simp; try with_reducible rfl
  try simp only [Act.put, List.setIfInBounds_toArray, List.set_cons_zero, List.set_cons_succ]
  refine wpAnyH_take (i := 26) (v := ?_) rfl (by kernel_rfl) (by kernel_rfl) (by kernel_rfl) (fun _ _ _ h => hP _ _ _ _ h) (Or.inl ⟨by kernel_rfl, ?_⟩) hS ?_
  rotate_left
  · intro w hSw; (try dsimp only at hSw); go_simp; try with_reducible rfl
  try simp only [Act.put, List.setIfInBounds_toArray, List.set_cons_zero, List.set_cons_succ]
  refine wpAnyH_ready (rs := [27]) (by kernel_rfl) (by simp) ?_
  refine AllReadyH.cons rfl (fun K hK0 => ?_) AllReadyH.nil
  go_simp
  refine Shut.out hK0 _ _ (by first | exact ⟨hbx0, hbx1, hx0, hx2⟩ | exact ⟨HK0.out _, HK1.out _, HKa.out _, HKb.out _⟩) (fun hS27 => ?_)
  clear hK0
  try simp only [Act.put, List.setIfInBounds_toArray, List.set_cons_zero, List.set_cons_succ]
  refine wpAnyH_ready (rs := [28]) (by kernel_rfl) (by simp) ?_
  refine AllReadyH.cons rfl (fun K hK0 => ?_) AllReadyH.nil
  go_simp
  refine Shut.out hK0 _ _ (by first | exact ⟨hbx0, hbx1, hx0, hx2⟩ | exact ⟨HK0.out _, HK1.out _, HKa.out _, HKb.out _⟩) (fun hS28 => ?_)
  clear hK0
  try simp only [Act.put, List.setIfInBounds_toArray, List.set_cons_zero, List.set_cons_succ]
  refine wpAnyH_done (by kernel_rfl) ?_ _
  exact hK _ _ _ _ _ _ _ _ _ _ _ _ _ _ _ _ _ _ _ _ _ _ _ _ _ _ _
set_option maxRecDepth 100000 in
set_option maxHeartbeats 20000000 in
theorem reg21_tf {Q : Exit → Act → World → Prop} {B0 B1 i k na nb c0 c1 : Nat} {ad : Addr} {y0 : Int} {A1 : Option Addr} {at_ : Int} {x0 x3 x4 x5 x6 x7 x8 x11 x13 x14 x15 x16 x17 x18 x19 x20 x21 x22 x23 x24 x25 x26 x27 x28 x29 x30 x31 x32 x33 x34 x35 x36 x37 x38 x39 x40 x41 x42 x43 x44 x45 x46 x47 x48 x49 x50 x51 x52 x53 x54 x55 x56 x57 x58 x59 x60 x61 x62 x63 x64 x65 x66 x67 x68 x69 x70 x71 x72 x73 x74 x75 x76 x77 x78 x79 x80 x81 x82 x83 x84 x85 x86 x87 x88 x89 x90 x91 x92 x93 x94 x95 x96 x97 x98 x99 x100 x101 x102 x103 x104 x105 x106 x107 x108 x109 x110 x111 x112 x113 x114 x115 x116 x117 x118 : Value} {wr : World}
    (hbx0 : wr.cell? ⟨B0, 0, none⟩ = some (.slice (some ad) na c0)) (hbx1 : wr.cell? ⟨B1, 0, none⟩ = some (.slice A1 nb c1)) (HK0 : Aside0 (∀ o, (wr.alloc o).cell? ⟨B0, 0, none⟩ = some (.slice (some ad) na c0))) (HK1 : Aside0 (∀ o, (wr.alloc o).cell? ⟨B1, 0, none⟩ = some (.slice A1 nb c1)))
    (hx0 : wr.cell? (ad.add (i * 2)) = some (.int .i64 y0)) (HKa : Aside0 (∀ o, (wr.alloc o).cell? (ad.add (i * 2)) = some (.int .i64 y0)))
    (hilz : (i : Int) < (na : Int)) (hklz : ¬ (k : Int) < (nb : Int))
    (hP : ∀ c (a : Act) tm w, Q (.panic c) { a with tmps := tm } w → Q (.panic c) a w) (hK : ∀ u81 u82 u83 u84 u85 u86 u87 u88 u89 u90 u91 u92 u93 u94 u95 u96 u97 u98 u99 u100 u101 u102 u103 u104 u105 u106 u107 : Value, Q .normal { tmps := #[x0, .pointer (some ⟨B0, 0, none⟩), .pointer (some ⟨B1, 0, none⟩), x3, x4, x5, x6, x7, x8, .int .i64 (i : Int), .int .i64 (k : Int), x11, .int .i64 at_, .pointer (some ⟨wr.heap.size, 0, none⟩), x14, x15, x16, x17, x18, x19, x20, x21, x22, x23, x24, x25, x26, x27, x28, x29, x30, x31, x32, x33, x34, x35, x36, x37, x38, x39, x40, x41, x42, x43, x44, x45, x46, x47, x48, x49, x50, x51, x52, x53, x54, x55, x56, x57, x58, x59, x60, x61, x62, x63, x64, x65, x66, x67, x68, x69, x70, x71, x72, x73, x74, x75, x76, x77, x78, x79, x80, u81, u82, u83, u84, u85, u86, u87, u88, u89, u90, u91, u92, u93, u94, u95, u96, u97, u98, u99, u100, u101, u102, u103, u104, u105, u106, u107, x108, x109, x110, x111, x112, x113, x114, x115, x116, x117, x118], defers := [] } ((wr.alloc (.cells #[.bool (decide (y0 ≤ at_)), .bool (false)] 80)).drew)) :
    Code.wp Tryz.prog (Code.region 21 ops21 true) Q { tmps := #[x0, .pointer (some ⟨B0, 0, none⟩), .pointer (some ⟨B1, 0, none⟩), x3, x4, x5, x6, x7, x8, .int .i64 (i : Int), .int .i64 (k : Int), x11, .int .i64 at_, x13, x14, x15, x16, x17, x18, x19, x20, x21, x22, x23, x24, x25, x26, x27, x28, x29, x30, x31, x32, x33, x34, x35, x36, x37, x38, x39, x40, x41, x42, x43, x44, x45, x46, x47, x48, x49, x50, x51, x52, x53, x54, x55, x56, x57, x58, x59, x60, x61, x62, x63, x64, x65, x66, x67, x68, x69, x70, x71, x72, x73, x74, x75, x76, x77, x78, x79, x80, x81, x82, x83, x84, x85, x86, x87, x88, x89, x90, x91, x92, x93, x94, x95, x96, x97, x98, x99, x100, x101, x102, x103, x104, x105, x106, x107, x108, x109, x110, x111, x112, x113, x114, x115, x116, x117, x118], defers := [] } wr := by
  have hu80 := Tryz.underlying80
  have hi1 : i < na := Int.ofNat_lt.1 hilz
  unfold ops21
  refine wp_region_held_drew (S := fun w' => w'.cell? ⟨B0, 0, none⟩ = some (.slice (some ad) na c0) ∧ w'.cell? ⟨B1, 0, none⟩ = some (.slice A1 nb c1) ∧ w'.cell? (ad.add (i * 2)) = some (.int .i64 y0)) (by kernel_rfl) ⟨hbx0, hbx1, hx0⟩ (fun hS => ?_)
  refine wpAnyH_take (i := 0) (v := ?_) rfl (by kernel_rfl) (by kernel_rfl) (by kernel_rfl) (fun _ _ _ h => hP _ _ _ _ h) (Or.inl ⟨by kernel_rfl, ?_⟩) hS ?_
  rotate_left
  · intro w hSw; (try dsimp only at hSw); go_simp; try with_reducible rfl
  try simp only [Act.put, List.setIfInBounds_toArray, List.set_cons_zero, List.set_cons_succ]
  refine wpAnyH_take (i := 1) (v := ?_) rfl (by kernel_rfl) (by kernel_rfl) (by kernel_rfl) (fun _ _ _ h => hP _ _ _ _ h) (Or.inl ⟨by kernel_rfl, ?_⟩) hS ?_
  rotate_left
  · intro w hSw; (try dsimp only at hSw); go_simp; try with_reducible rfl
  try simp only [Act.put, List.setIfInBounds_toArray, List.set_cons_zero, List.set_cons_succ]
  refine wpAnyH_take (i := 2) (v := ?_) rfl (by kernel_rfl) (by kernel_rfl) (by kernel_rfl) (fun _ _ _ h => hP _ _ _ _ h) (Or.inl ⟨by kernel_rfl, ?_⟩) hS ?_
  rotate_left
  · intro w hSw; (try dsimp only at hSw); go_simp; try with_reducible rfl
  try simp only [Act.put, List.setIfInBounds_toArray, List.set_cons_zero, List.set_cons_succ]
  refine wpAnyH_take (i := 3) (v := ?_) rfl (by kernel_rfl) (by kernel_rfl) (by kernel_rfl) (fun _ _ _ h => hP _ _ _ _ h) (Or.inl ⟨by kernel_rfl, ?_⟩) hS ?_
  rotate_left
  · intro w hSw; (try dsimp only at hSw); go_simp; try with_reducible rfl
  try simp only [Act.put, List.setIfInBounds_toArray, List.set_cons_zero, List.set_cons_succ]
  refine wpAnyH_take (i := 4) (v := ?_) rfl (by kernel_rfl) (by kernel_rfl) (by kernel_rfl) (fun _ _ _ h => hP _ _ _ _ h) (Or.inl ⟨by kernel_rfl, ?_⟩) hS ?_
  rotate_left
  · intro w hSw; (try dsimp only at hSw); go_simp; try with_reducible rfl
  try simp only [Act.put, List.setIfInBounds_toArray, List.set_cons_zero, List.set_cons_succ]
  refine wpAnyH_take (i := 5) (v := ?_) rfl (by kernel_rfl) (by kernel_rfl) (by kernel_rfl) (fun _ _ _ h => hP _ _ _ _ h) (Or.inl ⟨by kernel_rfl, ?_⟩) hS ?_
  rotate_left
  · intro w hSw; (try dsimp only at hSw); go_simp; try with_reducible rfl
  try simp only [Act.put, List.setIfInBounds_toArray, List.set_cons_zero, List.set_cons_succ]
  refine wpAnyH_take (i := 6) (v := ?_) rfl (by kernel_rfl) (by kernel_rfl) (by kernel_rfl) (fun _ _ _ h => hP _ _ _ _ h) (Or.inl ⟨by kernel_rfl, ?_⟩) hS ?_
  rotate_left
  · intro w hSw; (try dsimp only at hSw); go_simp; try with_reducible rfl
  try simp only [Act.put, List.setIfInBounds_toArray, List.set_cons_zero, List.set_cons_succ]
  refine wpAnyH_take (i := 7) (v := ?_) rfl (by kernel_rfl) (by kernel_rfl) (by kernel_rfl) (fun _ _ _ h => hP _ _ _ _ h) (Or.inl ⟨by kernel_rfl, ?_⟩) hS ?_
  rotate_left
  · intro w hSw; (try dsimp only at hSw); go_simp; try with_reducible rfl
  try simp only [Act.put, List.setIfInBounds_toArray, List.set_cons_zero, List.set_cons_succ]
  refine wpAnyH_take (i := 8) (v := ?_) rfl (by kernel_rfl) (by kernel_rfl) (by kernel_rfl) (fun _ _ _ h => hP _ _ _ _ h) (Or.inl ⟨by kernel_rfl, ?_⟩) hS ?_
  rotate_left
  · intro w hSw; (try dsimp only at hSw); go_simp; try with_reducible rfl
  try simp only [Act.put, List.setIfInBounds_toArray, List.set_cons_zero, List.set_cons_succ]
  refine wpAnyH_take (i := 9) (v := ?_) rfl (by kernel_rfl) (by kernel_rfl) (by kernel_rfl) (fun _ _ _ h => hP _ _ _ _ h) (Or.inl ⟨by kernel_rfl, ?_⟩) hS ?_
  rotate_left
  · intro w hSw; (try dsimp only at hSw); go_simp; try with_reducible rfl
  try simp only [Act.put, List.setIfInBounds_toArray, List.set_cons_zero, List.set_cons_succ]
  refine wpAnyH_take (i := 10) (v := ?_) rfl (by kernel_rfl) (by kernel_rfl) (by kernel_rfl) (fun _ _ _ h => hP _ _ _ _ h) (Or.inl ⟨by kernel_rfl, ?_⟩) hS ?_
  rotate_left
  · intro w hSw; (try dsimp only at hSw); go_simp; try with_reducible rfl
  try simp only [Act.put, List.setIfInBounds_toArray, List.set_cons_zero, List.set_cons_succ]
  refine wpAnyH_take (i := 11) (v := ?_) rfl (by kernel_rfl) (by kernel_rfl) (by kernel_rfl) (fun _ _ _ h => hP _ _ _ _ h) (Or.inl ⟨by kernel_rfl, ?_⟩) hS ?_
  rotate_left
  · intro w hSw; (try dsimp only at hSw); go_simp; try with_reducible rfl
  try simp only [Act.put, List.setIfInBounds_toArray, List.set_cons_zero, List.set_cons_succ]
  refine wpAnyH_take (i := 12) (v := ?_) rfl (by kernel_rfl) (by kernel_rfl) (by kernel_rfl) (fun _ _ _ h => hP _ _ _ _ h) (Or.inl ⟨by kernel_rfl, ?_⟩) hS ?_
  rotate_left
  · intro w hSw; (try dsimp only at hSw); go_simp; try with_reducible rfl
  try simp only [Act.put, List.setIfInBounds_toArray, List.set_cons_zero, List.set_cons_succ]
  refine wpAnyH_take (i := 13) (v := ?_) rfl (by kernel_rfl) (by kernel_rfl) (by kernel_rfl) (fun _ _ _ h => hP _ _ _ _ h) (Or.inl ⟨by kernel_rfl, ?_⟩) hS ?_
  rotate_left
  · intro w hSw; (try dsimp only at hSw); go_simp; try with_reducible rfl
  try simp only [Act.put, List.setIfInBounds_toArray, List.set_cons_zero, List.set_cons_succ]
  refine wpAnyH_take (i := 14) (v := ?_) rfl (by kernel_rfl) (by kernel_rfl) (by kernel_rfl) (fun _ _ _ h => hP _ _ _ _ h) (Or.inl ⟨by kernel_rfl, ?_⟩) hS ?_
  rotate_left
  · intro w hSw; (try dsimp only at hSw); go_simp; try with_reducible rfl
  try simp only [Act.put, List.setIfInBounds_toArray, List.set_cons_zero, List.set_cons_succ]
  refine wpAnyH_take (i := 15) (v := ?_) rfl (by kernel_rfl) (by kernel_rfl) (by kernel_rfl) (fun _ _ _ h => hP _ _ _ _ h) (Or.inl ⟨by kernel_rfl, ?_⟩) hS ?_
  rotate_left
  · intro w hSw; (try dsimp only at hSw); go_simp; try with_reducible rfl
  try simp only [Act.put, List.setIfInBounds_toArray, List.set_cons_zero, List.set_cons_succ]
  refine wpAnyH_take (i := 16) (v := ?_) rfl (by kernel_rfl) (by kernel_rfl) (by kernel_rfl) (fun _ _ _ h => hP _ _ _ _ h) (Or.inl ⟨by kernel_rfl, ?_⟩) hS ?_
  rotate_left
  · intro w hSw; (try dsimp only at hSw); go_simp; try with_reducible rfl
  try simp only [Act.put, List.setIfInBounds_toArray, List.set_cons_zero, List.set_cons_succ]
  refine wpAnyH_take (i := 17) (v := ?_) rfl (by kernel_rfl) (by kernel_rfl) (by kernel_rfl) (fun _ _ _ h => hP _ _ _ _ h) (Or.inl ⟨by kernel_rfl, ?_⟩) hS ?_
  rotate_left
  · intro w hSw; (try dsimp only at hSw); go_simp; try with_reducible rfl
  try simp only [Act.put, List.setIfInBounds_toArray, List.set_cons_zero, List.set_cons_succ]
  refine wpAnyH_take (i := 18) (v := undef) rfl (by kernel_rfl) (by kernel_rfl) (by kernel_rfl) (fun _ _ _ h => hP _ _ _ _ h) (Or.inr ⟨by kernel_rfl, rfl⟩) hS ?_
  try simp only [Act.put, List.setIfInBounds_toArray, List.set_cons_zero, List.set_cons_succ]
  refine wpAnyH_take (i := 19) (v := undef) rfl (by kernel_rfl) (by kernel_rfl) (by kernel_rfl) (fun _ _ _ h => hP _ _ _ _ h) (Or.inr ⟨by kernel_rfl, rfl⟩) hS ?_
  try simp only [Act.put, List.setIfInBounds_toArray, List.set_cons_zero, List.set_cons_succ]
  refine wpAnyH_take (i := 20) (v := undef) rfl (by kernel_rfl) (by kernel_rfl) (by kernel_rfl) (fun _ _ _ h => hP _ _ _ _ h) (Or.inr ⟨by kernel_rfl, rfl⟩) hS ?_
  try simp only [Act.put, List.setIfInBounds_toArray, List.set_cons_zero, List.set_cons_succ]
  refine wpAnyH_take (i := 21) (v := undef) rfl (by kernel_rfl) (by kernel_rfl) (by kernel_rfl) (fun _ _ _ h => hP _ _ _ _ h) (Or.inr ⟨by kernel_rfl, rfl⟩) hS ?_
  try simp only [Act.put, List.setIfInBounds_toArray, List.set_cons_zero, List.set_cons_succ]
  refine wpAnyH_take (i := 22) (v := undef) rfl (by kernel_rfl) (by kernel_rfl) (by kernel_rfl) (fun _ _ _ h => hP _ _ _ _ h) (Or.inr ⟨by kernel_rfl, rfl⟩) hS ?_
  try simp only [Act.put, List.setIfInBounds_toArray, List.set_cons_zero, List.set_cons_succ]
  refine wpAnyH_take (i := 23) (v := undef) rfl (by kernel_rfl) (by kernel_rfl) (by kernel_rfl) (fun _ _ _ h => hP _ _ _ _ h) (Or.inr ⟨by kernel_rfl, rfl⟩) hS ?_
  try simp only [Act.put, List.setIfInBounds_toArray, List.set_cons_zero, List.set_cons_succ]
  refine wpAnyH_take (i := 24) (v := undef) rfl (by kernel_rfl) (by kernel_rfl) (by kernel_rfl) (fun _ _ _ h => hP _ _ _ _ h) (Or.inr ⟨by kernel_rfl, rfl⟩) hS ?_
  try simp only [Act.put, List.setIfInBounds_toArray, List.set_cons_zero, List.set_cons_succ]
  refine wpAnyH_take (i := 25) (v := ?_) rfl (by kernel_rfl) (by kernel_rfl) (by kernel_rfl) (fun _ _ _ h => hP _ _ _ _ h) (Or.inl ⟨by kernel_rfl, ?_⟩) hS ?_
  rotate_left
  · intro w hSw; (try dsimp only at hSw); go_simp; try with_reducible rfl
  try simp only [Act.put, List.setIfInBounds_toArray, List.set_cons_zero, List.set_cons_succ]
  refine wpAnyH_take (i := 26) (v := ?_) rfl (by kernel_rfl) (by kernel_rfl) (by kernel_rfl) (fun _ _ _ h => hP _ _ _ _ h) (Or.inl ⟨by kernel_rfl, ?_⟩) hS ?_
  rotate_left
  · intro w hSw; (try dsimp only at hSw); go_simp; try with_reducible rfl
  try simp only [Act.put, List.setIfInBounds_toArray, List.set_cons_zero, List.set_cons_succ]
  refine wpAnyH_ready (rs := [27]) (by kernel_rfl) (by simp) ?_
  refine AllReadyH.cons rfl (fun K hK0 => ?_) AllReadyH.nil
  go_simp
  refine Shut.out hK0 _ _ (by first | exact ⟨hbx0, hbx1, hx0⟩ | exact ⟨HK0.out _, HK1.out _, HKa.out _⟩) (fun hS27 => ?_)
  clear hK0
  try simp only [Act.put, List.setIfInBounds_toArray, List.set_cons_zero, List.set_cons_succ]
  refine wpAnyH_ready (rs := [28]) (by kernel_rfl) (by simp) ?_
  refine AllReadyH.cons rfl (fun K hK0 => ?_) AllReadyH.nil
  go_simp
  refine Shut.out hK0 _ _ (by first | exact ⟨hbx0, hbx1, hx0⟩ | exact ⟨HK0.out _, HK1.out _, HKa.out _⟩) (fun hS28 => ?_)
  clear hK0
  try simp only [Act.put, List.setIfInBounds_toArray, List.set_cons_zero, List.set_cons_succ]
  refine wpAnyH_done (by kernel_rfl) ?_ _
  exact hK _ _ _ _ _ _ _ _ _ _ _ _ _ _ _ _ _ _ _ _ _ _ _ _ _ _ _
set_option maxRecDepth 100000 in
set_option maxHeartbeats 20000000 in
theorem reg21_ft {Q : Exit → Act → World → Prop} {B0 B1 i k na nb c0 c1 : Nat} {A0 : Option Addr} {ad2 : Addr} {z0 : Int} {at_ : Int} {x0 x3 x4 x5 x6 x7 x8 x11 x13 x14 x15 x16 x17 x18 x19 x20 x21 x22 x23 x24 x25 x26 x27 x28 x29 x30 x31 x32 x33 x34 x35 x36 x37 x38 x39 x40 x41 x42 x43 x44 x45 x46 x47 x48 x49 x50 x51 x52 x53 x54 x55 x56 x57 x58 x59 x60 x61 x62 x63 x64 x65 x66 x67 x68 x69 x70 x71 x72 x73 x74 x75 x76 x77 x78 x79 x80 x81 x82 x83 x84 x85 x86 x87 x88 x89 x90 x91 x92 x93 x94 x95 x96 x97 x98 x99 x100 x101 x102 x103 x104 x105 x106 x107 x108 x109 x110 x111 x112 x113 x114 x115 x116 x117 x118 : Value} {wr : World}
    (hbx0 : wr.cell? ⟨B0, 0, none⟩ = some (.slice A0 na c0)) (hbx1 : wr.cell? ⟨B1, 0, none⟩ = some (.slice (some ad2) nb c1)) (HK0 : Aside0 (∀ o, (wr.alloc o).cell? ⟨B0, 0, none⟩ = some (.slice A0 na c0))) (HK1 : Aside0 (∀ o, (wr.alloc o).cell? ⟨B1, 0, none⟩ = some (.slice (some ad2) nb c1)))
    (hx2 : wr.cell? (ad2.add (k * 2)) = some (.int .i64 z0)) (HKb : Aside0 (∀ o, (wr.alloc o).cell? (ad2.add (k * 2)) = some (.int .i64 z0)))
    (hilz : ¬ (i : Int) < (na : Int)) (hklz : (k : Int) < (nb : Int))
    (hP : ∀ c (a : Act) tm w, Q (.panic c) { a with tmps := tm } w → Q (.panic c) a w) (hK : ∀ u81 u82 u83 u84 u85 u86 u87 u88 u89 u90 u91 u92 u93 u94 u95 u96 u97 u98 u99 u100 u101 u102 u103 u104 u105 u106 u107 : Value, Q .normal { tmps := #[x0, .pointer (some ⟨B0, 0, none⟩), .pointer (some ⟨B1, 0, none⟩), x3, x4, x5, x6, x7, x8, .int .i64 (i : Int), .int .i64 (k : Int), x11, .int .i64 at_, .pointer (some ⟨wr.heap.size, 0, none⟩), x14, x15, x16, x17, x18, x19, x20, x21, x22, x23, x24, x25, x26, x27, x28, x29, x30, x31, x32, x33, x34, x35, x36, x37, x38, x39, x40, x41, x42, x43, x44, x45, x46, x47, x48, x49, x50, x51, x52, x53, x54, x55, x56, x57, x58, x59, x60, x61, x62, x63, x64, x65, x66, x67, x68, x69, x70, x71, x72, x73, x74, x75, x76, x77, x78, x79, x80, u81, u82, u83, u84, u85, u86, u87, u88, u89, u90, u91, u92, u93, u94, u95, u96, u97, u98, u99, u100, u101, u102, u103, u104, u105, u106, u107, x108, x109, x110, x111, x112, x113, x114, x115, x116, x117, x118], defers := [] } ((wr.alloc (.cells #[.bool (false), .bool (decide (z0 ≤ at_))] 80)).drew)) :
    Code.wp Tryz.prog (Code.region 21 ops21 true) Q { tmps := #[x0, .pointer (some ⟨B0, 0, none⟩), .pointer (some ⟨B1, 0, none⟩), x3, x4, x5, x6, x7, x8, .int .i64 (i : Int), .int .i64 (k : Int), x11, .int .i64 at_, x13, x14, x15, x16, x17, x18, x19, x20, x21, x22, x23, x24, x25, x26, x27, x28, x29, x30, x31, x32, x33, x34, x35, x36, x37, x38, x39, x40, x41, x42, x43, x44, x45, x46, x47, x48, x49, x50, x51, x52, x53, x54, x55, x56, x57, x58, x59, x60, x61, x62, x63, x64, x65, x66, x67, x68, x69, x70, x71, x72, x73, x74, x75, x76, x77, x78, x79, x80, x81, x82, x83, x84, x85, x86, x87, x88, x89, x90, x91, x92, x93, x94, x95, x96, x97, x98, x99, x100, x101, x102, x103, x104, x105, x106, x107, x108, x109, x110, x111, x112, x113, x114, x115, x116, x117, x118], defers := [] } wr := by
  have hu80 := Tryz.underlying80
  have hk1 : k < nb := Int.ofNat_lt.1 hklz
  unfold ops21
  refine wp_region_held_drew (S := fun w' => w'.cell? ⟨B0, 0, none⟩ = some (.slice A0 na c0) ∧ w'.cell? ⟨B1, 0, none⟩ = some (.slice (some ad2) nb c1) ∧ w'.cell? (ad2.add (k * 2)) = some (.int .i64 z0)) (by kernel_rfl) ⟨hbx0, hbx1, hx2⟩ (fun hS => ?_)
  refine wpAnyH_take (i := 0) (v := ?_) rfl (by kernel_rfl) (by kernel_rfl) (by kernel_rfl) (fun _ _ _ h => hP _ _ _ _ h) (Or.inl ⟨by kernel_rfl, ?_⟩) hS ?_
  rotate_left
  · intro w hSw; (try dsimp only at hSw); go_simp; try with_reducible rfl
  try simp only [Act.put, List.setIfInBounds_toArray, List.set_cons_zero, List.set_cons_succ]
  refine wpAnyH_take (i := 1) (v := ?_) rfl (by kernel_rfl) (by kernel_rfl) (by kernel_rfl) (fun _ _ _ h => hP _ _ _ _ h) (Or.inl ⟨by kernel_rfl, ?_⟩) hS ?_
  rotate_left
  · intro w hSw; (try dsimp only at hSw); go_simp; try with_reducible rfl
  try simp only [Act.put, List.setIfInBounds_toArray, List.set_cons_zero, List.set_cons_succ]
  refine wpAnyH_take (i := 2) (v := ?_) rfl (by kernel_rfl) (by kernel_rfl) (by kernel_rfl) (fun _ _ _ h => hP _ _ _ _ h) (Or.inl ⟨by kernel_rfl, ?_⟩) hS ?_
  rotate_left
  · intro w hSw; (try dsimp only at hSw); go_simp; try with_reducible rfl
  try simp only [Act.put, List.setIfInBounds_toArray, List.set_cons_zero, List.set_cons_succ]
  refine wpAnyH_take (i := 3) (v := ?_) rfl (by kernel_rfl) (by kernel_rfl) (by kernel_rfl) (fun _ _ _ h => hP _ _ _ _ h) (Or.inl ⟨by kernel_rfl, ?_⟩) hS ?_
  rotate_left
  · intro w hSw; (try dsimp only at hSw); go_simp; try with_reducible rfl
  try simp only [Act.put, List.setIfInBounds_toArray, List.set_cons_zero, List.set_cons_succ]
  refine wpAnyH_take (i := 4) (v := ?_) rfl (by kernel_rfl) (by kernel_rfl) (by kernel_rfl) (fun _ _ _ h => hP _ _ _ _ h) (Or.inl ⟨by kernel_rfl, ?_⟩) hS ?_
  rotate_left
  · intro w hSw; (try dsimp only at hSw); go_simp; try with_reducible rfl
  try simp only [Act.put, List.setIfInBounds_toArray, List.set_cons_zero, List.set_cons_succ]
  refine wpAnyH_take (i := 5) (v := undef) rfl (by kernel_rfl) (by kernel_rfl) (by kernel_rfl) (fun _ _ _ h => hP _ _ _ _ h) (Or.inr ⟨by kernel_rfl, rfl⟩) hS ?_
  try simp only [Act.put, List.setIfInBounds_toArray, List.set_cons_zero, List.set_cons_succ]
  refine wpAnyH_take (i := 6) (v := undef) rfl (by kernel_rfl) (by kernel_rfl) (by kernel_rfl) (fun _ _ _ h => hP _ _ _ _ h) (Or.inr ⟨by kernel_rfl, rfl⟩) hS ?_
  try simp only [Act.put, List.setIfInBounds_toArray, List.set_cons_zero, List.set_cons_succ]
  refine wpAnyH_take (i := 7) (v := undef) rfl (by kernel_rfl) (by kernel_rfl) (by kernel_rfl) (fun _ _ _ h => hP _ _ _ _ h) (Or.inr ⟨by kernel_rfl, rfl⟩) hS ?_
  try simp only [Act.put, List.setIfInBounds_toArray, List.set_cons_zero, List.set_cons_succ]
  refine wpAnyH_take (i := 8) (v := undef) rfl (by kernel_rfl) (by kernel_rfl) (by kernel_rfl) (fun _ _ _ h => hP _ _ _ _ h) (Or.inr ⟨by kernel_rfl, rfl⟩) hS ?_
  try simp only [Act.put, List.setIfInBounds_toArray, List.set_cons_zero, List.set_cons_succ]
  refine wpAnyH_take (i := 9) (v := undef) rfl (by kernel_rfl) (by kernel_rfl) (by kernel_rfl) (fun _ _ _ h => hP _ _ _ _ h) (Or.inr ⟨by kernel_rfl, rfl⟩) hS ?_
  try simp only [Act.put, List.setIfInBounds_toArray, List.set_cons_zero, List.set_cons_succ]
  refine wpAnyH_take (i := 10) (v := undef) rfl (by kernel_rfl) (by kernel_rfl) (by kernel_rfl) (fun _ _ _ h => hP _ _ _ _ h) (Or.inr ⟨by kernel_rfl, rfl⟩) hS ?_
  try simp only [Act.put, List.setIfInBounds_toArray, List.set_cons_zero, List.set_cons_succ]
  refine wpAnyH_take (i := 11) (v := undef) rfl (by kernel_rfl) (by kernel_rfl) (by kernel_rfl) (fun _ _ _ h => hP _ _ _ _ h) (Or.inr ⟨by kernel_rfl, rfl⟩) hS ?_
  try simp only [Act.put, List.setIfInBounds_toArray, List.set_cons_zero, List.set_cons_succ]
  refine wpAnyH_take (i := 12) (v := ?_) rfl (by kernel_rfl) (by kernel_rfl) (by kernel_rfl) (fun _ _ _ h => hP _ _ _ _ h) (Or.inl ⟨by kernel_rfl, ?_⟩) hS ?_
  rotate_left
  · intro w hSw; (try dsimp only at hSw); go_simp; try with_reducible rfl
  try simp only [Act.put, List.setIfInBounds_toArray, List.set_cons_zero, List.set_cons_succ]
  refine wpAnyH_take (i := 13) (v := ?_) rfl (by kernel_rfl) (by kernel_rfl) (by kernel_rfl) (fun _ _ _ h => hP _ _ _ _ h) (Or.inl ⟨by kernel_rfl, ?_⟩) hS ?_
  rotate_left
  · intro w hSw; (try dsimp only at hSw); go_simp; try with_reducible rfl
  try simp only [Act.put, List.setIfInBounds_toArray, List.set_cons_zero, List.set_cons_succ]
  refine wpAnyH_take (i := 14) (v := ?_) rfl (by kernel_rfl) (by kernel_rfl) (by kernel_rfl) (fun _ _ _ h => hP _ _ _ _ h) (Or.inl ⟨by kernel_rfl, ?_⟩) hS ?_
  rotate_left
  · intro w hSw; (try dsimp only at hSw); go_simp; try with_reducible rfl
  try simp only [Act.put, List.setIfInBounds_toArray, List.set_cons_zero, List.set_cons_succ]
  refine wpAnyH_take (i := 15) (v := ?_) rfl (by kernel_rfl) (by kernel_rfl) (by kernel_rfl) (fun _ _ _ h => hP _ _ _ _ h) (Or.inl ⟨by kernel_rfl, ?_⟩) hS ?_
  rotate_left
  · intro w hSw; (try dsimp only at hSw); go_simp; try with_reducible rfl
  try simp only [Act.put, List.setIfInBounds_toArray, List.set_cons_zero, List.set_cons_succ]
  refine wpAnyH_take (i := 16) (v := ?_) rfl (by kernel_rfl) (by kernel_rfl) (by kernel_rfl) (fun _ _ _ h => hP _ _ _ _ h) (Or.inl ⟨by kernel_rfl, ?_⟩) hS ?_
  rotate_left
  · intro w hSw; (try dsimp only at hSw); go_simp; try with_reducible rfl
  try simp only [Act.put, List.setIfInBounds_toArray, List.set_cons_zero, List.set_cons_succ]
  refine wpAnyH_take (i := 17) (v := ?_) rfl (by kernel_rfl) (by kernel_rfl) (by kernel_rfl) (fun _ _ _ h => hP _ _ _ _ h) (Or.inl ⟨by kernel_rfl, ?_⟩) hS ?_
  rotate_left
  · intro w hSw; (try dsimp only at hSw); go_simp; try with_reducible rfl
  try simp only [Act.put, List.setIfInBounds_toArray, List.set_cons_zero, List.set_cons_succ]
  refine wpAnyH_take (i := 18) (v := ?_) rfl (by kernel_rfl) (by kernel_rfl) (by kernel_rfl) (fun _ _ _ h => hP _ _ _ _ h) (Or.inl ⟨by kernel_rfl, ?_⟩) hS ?_
  rotate_left
  · intro w hSw; (try dsimp only at hSw); go_simp; try with_reducible rfl
  try simp only [Act.put, List.setIfInBounds_toArray, List.set_cons_zero, List.set_cons_succ]
  refine wpAnyH_take (i := 19) (v := ?_) rfl (by kernel_rfl) (by kernel_rfl) (by kernel_rfl) (fun _ _ _ h => hP _ _ _ _ h) (Or.inl ⟨by kernel_rfl, ?_⟩) hS ?_
  rotate_left
  · intro w hSw; (try dsimp only at hSw); go_simp; try with_reducible rfl
  try simp only [Act.put, List.setIfInBounds_toArray, List.set_cons_zero, List.set_cons_succ]
  refine wpAnyH_take (i := 20) (v := ?_) rfl (by kernel_rfl) (by kernel_rfl) (by kernel_rfl) (fun _ _ _ h => hP _ _ _ _ h) (Or.inl ⟨by kernel_rfl, ?_⟩) hS ?_
  rotate_left
  · intro w hSw; (try dsimp only at hSw); go_simp; try with_reducible rfl
  try simp only [Act.put, List.setIfInBounds_toArray, List.set_cons_zero, List.set_cons_succ]
  refine wpAnyH_take (i := 21) (v := ?_) rfl (by kernel_rfl) (by kernel_rfl) (by kernel_rfl) (fun _ _ _ h => hP _ _ _ _ h) (Or.inl ⟨by kernel_rfl, ?_⟩) hS ?_
  rotate_left
  · intro w hSw; (try dsimp only at hSw); go_simp; try with_reducible rfl
  try simp only [Act.put, List.setIfInBounds_toArray, List.set_cons_zero, List.set_cons_succ]
  refine wpAnyH_take (i := 22) (v := ?_) rfl (by kernel_rfl) (by kernel_rfl) (by kernel_rfl) (fun _ _ _ h => hP _ _ _ _ h) (Or.inl ⟨by kernel_rfl, ?_⟩) hS ?_
  rotate_left
  · intro w hSw; (try dsimp only at hSw); go_simp; try with_reducible rfl
  try simp only [Act.put, List.setIfInBounds_toArray, List.set_cons_zero, List.set_cons_succ]
  refine wpAnyH_take (i := 23) (v := ?_) rfl (by kernel_rfl) (by kernel_rfl) (by kernel_rfl) (fun _ _ _ h => hP _ _ _ _ h) (Or.inl ⟨by kernel_rfl, ?_⟩) hS ?_
  rotate_left
  · intro w hSw; (try dsimp only at hSw); go_simp; try with_reducible rfl
  try simp only [Act.put, List.setIfInBounds_toArray, List.set_cons_zero, List.set_cons_succ]
  refine wpAnyH_take (i := 24) (v := ?_) rfl (by kernel_rfl) (by kernel_rfl) (by kernel_rfl) (fun _ _ _ h => hP _ _ _ _ h) (Or.inl ⟨by kernel_rfl, ?_⟩) hS ?_
  rotate_left
  · intro w hSw; (try dsimp only at hSw); go_simp; try with_reducible rfl
  try simp only [Act.put, List.setIfInBounds_toArray, List.set_cons_zero, List.set_cons_succ]
  refine wpAnyH_take (i := 25) (v := ?_) rfl (by kernel_rfl) (by kernel_rfl) (by kernel_rfl) (fun _ _ _ h => hP _ _ _ _ h) (Or.inl ⟨by kernel_rfl, ?_⟩) hS ?_
  rotate_left
  · intro w hSw; (try dsimp only at hSw); go_simp; try with_reducible rfl
  try simp only [Act.put, List.setIfInBounds_toArray, List.set_cons_zero, List.set_cons_succ]
  refine wpAnyH_take (i := 26) (v := ?_) rfl (by kernel_rfl) (by kernel_rfl) (by kernel_rfl) (fun _ _ _ h => hP _ _ _ _ h) (Or.inl ⟨by kernel_rfl, ?_⟩) hS ?_
  rotate_left
  · intro w hSw; (try dsimp only at hSw); go_simp; try with_reducible rfl
  try simp only [Act.put, List.setIfInBounds_toArray, List.set_cons_zero, List.set_cons_succ]
  refine wpAnyH_ready (rs := [27]) (by kernel_rfl) (by simp) ?_
  refine AllReadyH.cons rfl (fun K hK0 => ?_) AllReadyH.nil
  go_simp
  refine Shut.out hK0 _ _ (by first | exact ⟨hbx0, hbx1, hx2⟩ | exact ⟨HK0.out _, HK1.out _, HKb.out _⟩) (fun hS27 => ?_)
  clear hK0
  try simp only [Act.put, List.setIfInBounds_toArray, List.set_cons_zero, List.set_cons_succ]
  refine wpAnyH_ready (rs := [28]) (by kernel_rfl) (by simp) ?_
  refine AllReadyH.cons rfl (fun K hK0 => ?_) AllReadyH.nil
  go_simp
  refine Shut.out hK0 _ _ (by first | exact ⟨hbx0, hbx1, hx2⟩ | exact ⟨HK0.out _, HK1.out _, HKb.out _⟩) (fun hS28 => ?_)
  clear hK0
  try simp only [Act.put, List.setIfInBounds_toArray, List.set_cons_zero, List.set_cons_succ]
  refine wpAnyH_done (by kernel_rfl) ?_ _
  exact hK _ _ _ _ _ _ _ _ _ _ _ _ _ _ _ _ _ _ _ _ _ _ _ _ _ _ _
set_option maxRecDepth 100000 in
set_option maxHeartbeats 20000000 in
theorem reg21_ff {Q : Exit → Act → World → Prop} {B0 B1 i k na nb c0 c1 : Nat} {A0 : Option Addr} {A1 : Option Addr} {at_ : Int} {x0 x3 x4 x5 x6 x7 x8 x11 x13 x14 x15 x16 x17 x18 x19 x20 x21 x22 x23 x24 x25 x26 x27 x28 x29 x30 x31 x32 x33 x34 x35 x36 x37 x38 x39 x40 x41 x42 x43 x44 x45 x46 x47 x48 x49 x50 x51 x52 x53 x54 x55 x56 x57 x58 x59 x60 x61 x62 x63 x64 x65 x66 x67 x68 x69 x70 x71 x72 x73 x74 x75 x76 x77 x78 x79 x80 x81 x82 x83 x84 x85 x86 x87 x88 x89 x90 x91 x92 x93 x94 x95 x96 x97 x98 x99 x100 x101 x102 x103 x104 x105 x106 x107 x108 x109 x110 x111 x112 x113 x114 x115 x116 x117 x118 : Value} {wr : World}
    (hbx0 : wr.cell? ⟨B0, 0, none⟩ = some (.slice A0 na c0)) (hbx1 : wr.cell? ⟨B1, 0, none⟩ = some (.slice A1 nb c1)) (HK0 : Aside0 (∀ o, (wr.alloc o).cell? ⟨B0, 0, none⟩ = some (.slice A0 na c0))) (HK1 : Aside0 (∀ o, (wr.alloc o).cell? ⟨B1, 0, none⟩ = some (.slice A1 nb c1)))
    (hilz : ¬ (i : Int) < (na : Int)) (hklz : ¬ (k : Int) < (nb : Int))
    (hP : ∀ c (a : Act) tm w, Q (.panic c) { a with tmps := tm } w → Q (.panic c) a w) (hK : ∀ u81 u82 u83 u84 u85 u86 u87 u88 u89 u90 u91 u92 u93 u94 u95 u96 u97 u98 u99 u100 u101 u102 u103 u104 u105 u106 u107 : Value, Q .normal { tmps := #[x0, .pointer (some ⟨B0, 0, none⟩), .pointer (some ⟨B1, 0, none⟩), x3, x4, x5, x6, x7, x8, .int .i64 (i : Int), .int .i64 (k : Int), x11, .int .i64 at_, .pointer (some ⟨wr.heap.size, 0, none⟩), x14, x15, x16, x17, x18, x19, x20, x21, x22, x23, x24, x25, x26, x27, x28, x29, x30, x31, x32, x33, x34, x35, x36, x37, x38, x39, x40, x41, x42, x43, x44, x45, x46, x47, x48, x49, x50, x51, x52, x53, x54, x55, x56, x57, x58, x59, x60, x61, x62, x63, x64, x65, x66, x67, x68, x69, x70, x71, x72, x73, x74, x75, x76, x77, x78, x79, x80, u81, u82, u83, u84, u85, u86, u87, u88, u89, u90, u91, u92, u93, u94, u95, u96, u97, u98, u99, u100, u101, u102, u103, u104, u105, u106, u107, x108, x109, x110, x111, x112, x113, x114, x115, x116, x117, x118], defers := [] } ((wr.alloc (.cells #[.bool (false), .bool (false)] 80)).drew)) :
    Code.wp Tryz.prog (Code.region 21 ops21 true) Q { tmps := #[x0, .pointer (some ⟨B0, 0, none⟩), .pointer (some ⟨B1, 0, none⟩), x3, x4, x5, x6, x7, x8, .int .i64 (i : Int), .int .i64 (k : Int), x11, .int .i64 at_, x13, x14, x15, x16, x17, x18, x19, x20, x21, x22, x23, x24, x25, x26, x27, x28, x29, x30, x31, x32, x33, x34, x35, x36, x37, x38, x39, x40, x41, x42, x43, x44, x45, x46, x47, x48, x49, x50, x51, x52, x53, x54, x55, x56, x57, x58, x59, x60, x61, x62, x63, x64, x65, x66, x67, x68, x69, x70, x71, x72, x73, x74, x75, x76, x77, x78, x79, x80, x81, x82, x83, x84, x85, x86, x87, x88, x89, x90, x91, x92, x93, x94, x95, x96, x97, x98, x99, x100, x101, x102, x103, x104, x105, x106, x107, x108, x109, x110, x111, x112, x113, x114, x115, x116, x117, x118], defers := [] } wr := by
  have hu80 := Tryz.underlying80
  unfold ops21
  refine wp_region_held_drew (S := fun w' => w'.cell? ⟨B0, 0, none⟩ = some (.slice A0 na c0) ∧ w'.cell? ⟨B1, 0, none⟩ = some (.slice A1 nb c1)) (by kernel_rfl) ⟨hbx0, hbx1⟩ (fun hS => ?_)
  refine wpAnyH_take (i := 0) (v := ?_) rfl (by kernel_rfl) (by kernel_rfl) (by kernel_rfl) (fun _ _ _ h => hP _ _ _ _ h) (Or.inl ⟨by kernel_rfl, ?_⟩) hS ?_
  rotate_left
  · intro w hSw; (try dsimp only at hSw); go_simp; try with_reducible rfl
  try simp only [Act.put, List.setIfInBounds_toArray, List.set_cons_zero, List.set_cons_succ]
  refine wpAnyH_take (i := 1) (v := ?_) rfl (by kernel_rfl) (by kernel_rfl) (by kernel_rfl) (fun _ _ _ h => hP _ _ _ _ h) (Or.inl ⟨by kernel_rfl, ?_⟩) hS ?_
  rotate_left
  · intro w hSw; (try dsimp only at hSw); go_simp; try with_reducible rfl
  try simp only [Act.put, List.setIfInBounds_toArray, List.set_cons_zero, List.set_cons_succ]
  refine wpAnyH_take (i := 2) (v := ?_) rfl (by kernel_rfl) (by kernel_rfl) (by kernel_rfl) (fun _ _ _ h => hP _ _ _ _ h) (Or.inl ⟨by kernel_rfl, ?_⟩) hS ?_
  rotate_left
  · intro w hSw; (try dsimp only at hSw); go_simp; try with_reducible rfl
  try simp only [Act.put, List.setIfInBounds_toArray, List.set_cons_zero, List.set_cons_succ]
  refine wpAnyH_take (i := 3) (v := ?_) rfl (by kernel_rfl) (by kernel_rfl) (by kernel_rfl) (fun _ _ _ h => hP _ _ _ _ h) (Or.inl ⟨by kernel_rfl, ?_⟩) hS ?_
  rotate_left
  · intro w hSw; (try dsimp only at hSw); go_simp; try with_reducible rfl
  try simp only [Act.put, List.setIfInBounds_toArray, List.set_cons_zero, List.set_cons_succ]
  refine wpAnyH_take (i := 4) (v := ?_) rfl (by kernel_rfl) (by kernel_rfl) (by kernel_rfl) (fun _ _ _ h => hP _ _ _ _ h) (Or.inl ⟨by kernel_rfl, ?_⟩) hS ?_
  rotate_left
  · intro w hSw; (try dsimp only at hSw); go_simp; try with_reducible rfl
  try simp only [Act.put, List.setIfInBounds_toArray, List.set_cons_zero, List.set_cons_succ]
  refine wpAnyH_take (i := 5) (v := undef) rfl (by kernel_rfl) (by kernel_rfl) (by kernel_rfl) (fun _ _ _ h => hP _ _ _ _ h) (Or.inr ⟨by kernel_rfl, rfl⟩) hS ?_
  try simp only [Act.put, List.setIfInBounds_toArray, List.set_cons_zero, List.set_cons_succ]
  refine wpAnyH_take (i := 6) (v := undef) rfl (by kernel_rfl) (by kernel_rfl) (by kernel_rfl) (fun _ _ _ h => hP _ _ _ _ h) (Or.inr ⟨by kernel_rfl, rfl⟩) hS ?_
  try simp only [Act.put, List.setIfInBounds_toArray, List.set_cons_zero, List.set_cons_succ]
  refine wpAnyH_take (i := 7) (v := undef) rfl (by kernel_rfl) (by kernel_rfl) (by kernel_rfl) (fun _ _ _ h => hP _ _ _ _ h) (Or.inr ⟨by kernel_rfl, rfl⟩) hS ?_
  try simp only [Act.put, List.setIfInBounds_toArray, List.set_cons_zero, List.set_cons_succ]
  refine wpAnyH_take (i := 8) (v := undef) rfl (by kernel_rfl) (by kernel_rfl) (by kernel_rfl) (fun _ _ _ h => hP _ _ _ _ h) (Or.inr ⟨by kernel_rfl, rfl⟩) hS ?_
  try simp only [Act.put, List.setIfInBounds_toArray, List.set_cons_zero, List.set_cons_succ]
  refine wpAnyH_take (i := 9) (v := undef) rfl (by kernel_rfl) (by kernel_rfl) (by kernel_rfl) (fun _ _ _ h => hP _ _ _ _ h) (Or.inr ⟨by kernel_rfl, rfl⟩) hS ?_
  try simp only [Act.put, List.setIfInBounds_toArray, List.set_cons_zero, List.set_cons_succ]
  refine wpAnyH_take (i := 10) (v := undef) rfl (by kernel_rfl) (by kernel_rfl) (by kernel_rfl) (fun _ _ _ h => hP _ _ _ _ h) (Or.inr ⟨by kernel_rfl, rfl⟩) hS ?_
  try simp only [Act.put, List.setIfInBounds_toArray, List.set_cons_zero, List.set_cons_succ]
  refine wpAnyH_take (i := 11) (v := undef) rfl (by kernel_rfl) (by kernel_rfl) (by kernel_rfl) (fun _ _ _ h => hP _ _ _ _ h) (Or.inr ⟨by kernel_rfl, rfl⟩) hS ?_
  try simp only [Act.put, List.setIfInBounds_toArray, List.set_cons_zero, List.set_cons_succ]
  refine wpAnyH_take (i := 12) (v := ?_) rfl (by kernel_rfl) (by kernel_rfl) (by kernel_rfl) (fun _ _ _ h => hP _ _ _ _ h) (Or.inl ⟨by kernel_rfl, ?_⟩) hS ?_
  rotate_left
  · intro w hSw; (try dsimp only at hSw); go_simp; try with_reducible rfl
  try simp only [Act.put, List.setIfInBounds_toArray, List.set_cons_zero, List.set_cons_succ]
  refine wpAnyH_take (i := 13) (v := ?_) rfl (by kernel_rfl) (by kernel_rfl) (by kernel_rfl) (fun _ _ _ h => hP _ _ _ _ h) (Or.inl ⟨by kernel_rfl, ?_⟩) hS ?_
  rotate_left
  · intro w hSw; (try dsimp only at hSw); go_simp; try with_reducible rfl
  try simp only [Act.put, List.setIfInBounds_toArray, List.set_cons_zero, List.set_cons_succ]
  refine wpAnyH_take (i := 14) (v := ?_) rfl (by kernel_rfl) (by kernel_rfl) (by kernel_rfl) (fun _ _ _ h => hP _ _ _ _ h) (Or.inl ⟨by kernel_rfl, ?_⟩) hS ?_
  rotate_left
  · intro w hSw; (try dsimp only at hSw); go_simp; try with_reducible rfl
  try simp only [Act.put, List.setIfInBounds_toArray, List.set_cons_zero, List.set_cons_succ]
  refine wpAnyH_take (i := 15) (v := ?_) rfl (by kernel_rfl) (by kernel_rfl) (by kernel_rfl) (fun _ _ _ h => hP _ _ _ _ h) (Or.inl ⟨by kernel_rfl, ?_⟩) hS ?_
  rotate_left
  · intro w hSw; (try dsimp only at hSw); go_simp; try with_reducible rfl
  try simp only [Act.put, List.setIfInBounds_toArray, List.set_cons_zero, List.set_cons_succ]
  refine wpAnyH_take (i := 16) (v := ?_) rfl (by kernel_rfl) (by kernel_rfl) (by kernel_rfl) (fun _ _ _ h => hP _ _ _ _ h) (Or.inl ⟨by kernel_rfl, ?_⟩) hS ?_
  rotate_left
  · intro w hSw; (try dsimp only at hSw); go_simp; try with_reducible rfl
  try simp only [Act.put, List.setIfInBounds_toArray, List.set_cons_zero, List.set_cons_succ]
  refine wpAnyH_take (i := 17) (v := ?_) rfl (by kernel_rfl) (by kernel_rfl) (by kernel_rfl) (fun _ _ _ h => hP _ _ _ _ h) (Or.inl ⟨by kernel_rfl, ?_⟩) hS ?_
  rotate_left
  · intro w hSw; (try dsimp only at hSw); go_simp; try with_reducible rfl
  try simp only [Act.put, List.setIfInBounds_toArray, List.set_cons_zero, List.set_cons_succ]
  refine wpAnyH_take (i := 18) (v := undef) rfl (by kernel_rfl) (by kernel_rfl) (by kernel_rfl) (fun _ _ _ h => hP _ _ _ _ h) (Or.inr ⟨by kernel_rfl, rfl⟩) hS ?_
  try simp only [Act.put, List.setIfInBounds_toArray, List.set_cons_zero, List.set_cons_succ]
  refine wpAnyH_take (i := 19) (v := undef) rfl (by kernel_rfl) (by kernel_rfl) (by kernel_rfl) (fun _ _ _ h => hP _ _ _ _ h) (Or.inr ⟨by kernel_rfl, rfl⟩) hS ?_
  try simp only [Act.put, List.setIfInBounds_toArray, List.set_cons_zero, List.set_cons_succ]
  refine wpAnyH_take (i := 20) (v := undef) rfl (by kernel_rfl) (by kernel_rfl) (by kernel_rfl) (fun _ _ _ h => hP _ _ _ _ h) (Or.inr ⟨by kernel_rfl, rfl⟩) hS ?_
  try simp only [Act.put, List.setIfInBounds_toArray, List.set_cons_zero, List.set_cons_succ]
  refine wpAnyH_take (i := 21) (v := undef) rfl (by kernel_rfl) (by kernel_rfl) (by kernel_rfl) (fun _ _ _ h => hP _ _ _ _ h) (Or.inr ⟨by kernel_rfl, rfl⟩) hS ?_
  try simp only [Act.put, List.setIfInBounds_toArray, List.set_cons_zero, List.set_cons_succ]
  refine wpAnyH_take (i := 22) (v := undef) rfl (by kernel_rfl) (by kernel_rfl) (by kernel_rfl) (fun _ _ _ h => hP _ _ _ _ h) (Or.inr ⟨by kernel_rfl, rfl⟩) hS ?_
  try simp only [Act.put, List.setIfInBounds_toArray, List.set_cons_zero, List.set_cons_succ]
  refine wpAnyH_take (i := 23) (v := undef) rfl (by kernel_rfl) (by kernel_rfl) (by kernel_rfl) (fun _ _ _ h => hP _ _ _ _ h) (Or.inr ⟨by kernel_rfl, rfl⟩) hS ?_
  try simp only [Act.put, List.setIfInBounds_toArray, List.set_cons_zero, List.set_cons_succ]
  refine wpAnyH_take (i := 24) (v := undef) rfl (by kernel_rfl) (by kernel_rfl) (by kernel_rfl) (fun _ _ _ h => hP _ _ _ _ h) (Or.inr ⟨by kernel_rfl, rfl⟩) hS ?_
  try simp only [Act.put, List.setIfInBounds_toArray, List.set_cons_zero, List.set_cons_succ]
  refine wpAnyH_take (i := 25) (v := ?_) rfl (by kernel_rfl) (by kernel_rfl) (by kernel_rfl) (fun _ _ _ h => hP _ _ _ _ h) (Or.inl ⟨by kernel_rfl, ?_⟩) hS ?_
  rotate_left
  · intro w hSw; (try dsimp only at hSw); go_simp; try with_reducible rfl
  try simp only [Act.put, List.setIfInBounds_toArray, List.set_cons_zero, List.set_cons_succ]
  refine wpAnyH_take (i := 26) (v := ?_) rfl (by kernel_rfl) (by kernel_rfl) (by kernel_rfl) (fun _ _ _ h => hP _ _ _ _ h) (Or.inl ⟨by kernel_rfl, ?_⟩) hS ?_
  rotate_left
  · intro w hSw; (try dsimp only at hSw); go_simp; try with_reducible rfl
  try simp only [Act.put, List.setIfInBounds_toArray, List.set_cons_zero, List.set_cons_succ]
  refine wpAnyH_ready (rs := [27]) (by kernel_rfl) (by simp) ?_
  refine AllReadyH.cons rfl (fun K hK0 => ?_) AllReadyH.nil
  go_simp
  refine Shut.out hK0 _ _ (by first | exact ⟨hbx0, hbx1⟩ | exact ⟨HK0.out _, HK1.out _⟩) (fun hS27 => ?_)
  clear hK0
  try simp only [Act.put, List.setIfInBounds_toArray, List.set_cons_zero, List.set_cons_succ]
  refine wpAnyH_ready (rs := [28]) (by kernel_rfl) (by simp) ?_
  refine AllReadyH.cons rfl (fun K hK0 => ?_) AllReadyH.nil
  go_simp
  refine Shut.out hK0 _ _ (by first | exact ⟨hbx0, hbx1⟩ | exact ⟨HK0.out _, HK1.out _⟩) (fun hS28 => ?_)
  clear hK0
  try simp only [Act.put, List.setIfInBounds_toArray, List.set_cons_zero, List.set_cons_succ]
  refine wpAnyH_done (by kernel_rfl) ?_ _
  exact hK _ _ _ _ _ _ _ _ _ _ _ _ _ _ _ _ _ _ _ _ _ _ _ _ _ _ _
end Go.Proofs.YtmomcbhgggggnaaGreatDoor.Pr
end
section
namespace Go.Proofs.YtmomcbhgggggnaaGreatDoor.Pr
open Go.RowKit Go.Shelf Go.Proofs.YtmomcbhgggggnaaGreatDoorW.PrintWords Go.Proofs.YtmomcbhgggggnaaGreatDoorW.PrintLast Go.Proofs.YtmomcbhgggggnaaGreatDoorW.PrintMore
attribute [local go_sem] Oper.semAt_some
set_option linter.unusedVariables false
set_option linter.unusedSimpArgs false
/-- pieces: both lists are boxed; the function value captures the boxes. -/
theorem pieces_in (F : Fence) (n : Nat) (hf : F.fn 52) (hro : F.round = none) (A0 A1 : Option Addr) (n0 c0 n1 c1 : Nat) (w : World) :
    CallsIn F n Tryz.prog 52 #[.slice A0 n0 c0, .slice A1 n1 c1] w fun e w' => e = .returned (.func (.func 71) #[] #[.pointer (some ⟨w.heap.size, 0, none⟩), .pointer (some ⟨w.heap.size + 1, 0, none⟩)]) ∧ w' = (w.alloc (.cells #[.slice A0 n0 c0] 22)).alloc (.cells #[.slice A1 n1 c1] 22) := by
  refine callsIn_of_wp Tryz.func52 rfl hf ?_ hro
  simp only [Tryz.ntmps52, List.size_toArray, List.length_cons, List.length_nil, Nat.reduceAdd, Nat.reduceSub, Array.replicate_succ, Array.replicate_zero, List.push_toArray, List.append_toArray, List.nil_append, List.cons_append]
  gi_wp2
  go_ret
  exact ⟨rfl, rfl⟩
theorem compact_len (S : List Int) : (Lib.compact S).length ≤ S.length := by
  have : ∀ m, (Lib.compactUpTo S.toArray m).length ≤ m := by
    intro m
    induction m with
    | zero => simp [Lib.compactUpTo]
    | succ m ih =>
      rw [Lib.compactUpTo_succ, List.length_append]
      split <;> simp <;> omega
  exact this S.length
theorem cell_two_new' (w : World) (o : Obj) (x y : Value) (t : TypeId) : ∀ j u, [x, y][j]? = some u → ((w.alloc o).alloc (.cells #[x, y] t)).cell? ((⟨w.heap.size + 1, 0, none⟩ : Addr).add j) = some u := by
  intro j u h
  have hh : ((w.alloc o).alloc (.cells #[x, y] t)).heap[w.heap.size + 1]? = some (.cells #[x, y] t) := by
    have := World.alloc_heap_new (w.alloc o) (.cells #[x, y] t)
    rwa [World.size_alloc] at this
  match j, h with
  | 0, h => simp at h; subst h; exact (blk_cell hh 0).trans rfl
  | 1, h => simp at h; subst h; exact (blk_cell hh 1).trans rfl
  | j + 2, h => simp at h
theorem ix97_0 (A0 A1 : Option Addr) (n0 c0 n1 c1 : Nat) (w : World) : Sem.run Tryz.prog (Instr.index 97 (.agg #[.slice A0 n0 c0, .slice A1 n1 c1]) (.int .i64 0)) w = .ok (.slice A0 n0 c0) w := by
  have h := Tryz.underlying97
  unfold Instr.index
  simp [go_sem, h, asIntOf, underlying]
theorem ix97_1 (A0 A1 : Option Addr) (n0 c0 n1 c1 : Nat) (w : World) : Sem.run Tryz.prog (Instr.index 97 (.agg #[.slice A0 n0 c0, .slice A1 n1 c1]) (.int .i64 1)) w = .ok (.slice A1 n1 c1) w := by
  have h := Tryz.underlying97
  unfold Instr.index
  simp [go_sem, h, asIntOf, underlying]
attribute [local go_sem] ix97_0 ix97_1
def encP (x : PieceT) : Array Value := #[.agg #[.int .i64 x.1.f0, .int .i64 x.1.f1], .agg #[.bool x.2.1, .bool x.2.2]]
/-- What a round keeps. -/
def KpP (n₀ B : Nat) (W W' : World) : Prop := Below n₀ W W' ∧ ∀ k cur t f, W.heap[k]? = some (.cells cur t f) → t ≠ 41 → k ≠ B → W'.heap[k]? = W.heap[k]?
theorem grownBy_of_below {W W' : World} (h : Below W.heap.size W W') : W.grownBy W' none := ⟨h.os, h.tape, h.output, h.size, fun k hk _ => h.block k hk⟩
theorem row_cell {w : World} {base g N c : Nat} {l : List Int} (h : RowI w base (.slice (some ⟨g, 0, none⟩) N c) l) (j : Nat) (hj : j < l.length) : w.cell? ⟨g, j, none⟩ = some (.int .i64 (rd l (j : Int))) := by
  obtain ⟨g', c', cur, e1, k1, k2, k3, k4, k5, k6⟩ := row_some h (fun hc => by rw [hc] at hj; simp at hj)
  injection e1 with e1 _ e3
  injection e1 with e1
  injection e1 with e1
  subst e1 e3
  rw [blk_cell k2, cur_at k6 j hj]
  unfold rd
  simp [List.getD_eq_getElem?_getD, List.getElem?_eq_getElem hj]
theorem after_sort (n : Nat) {w1 : World} {base g c N : Nat} {S E : List Int} (r1 : RowI w1 base (.slice (some ⟨g, 0, none⟩) N c) S) (hSne : S ≠ []) (hSl : S.length = N) (hE : E = Lib.compact S) (hSn : S.length ≤ 2000) :
    CallsIn Fence.wide n Tryz.prog 73 #[.slice (some ⟨g, 0, none⟩) N c] w1 fun e w2 => e = .returned (.slice (some ⟨g, 0, none⟩) E.length c) ∧ RowI w2 base (.slice (some ⟨g, 0, none⟩) E.length c) E ∧ w1.grownBy w2 (some g) := by
  obtain ⟨g', c', cur1, e1, k1, k2, k3, k4, k5, k6⟩ := row_some r1 hSne
  injection e1 with e1 _ e3
  injection e1 with e1
  injection e1 with e1
  subst e1 e3
  subst hSl
  have hEl : E.length ≤ S.length := by rw [hE]; exact compact_len S
  have hcomp := Tryz.slices_Compact_int g 0 c S w1 (row_holds k2 k6) (by omega) k3
  rw [← hE] at hcomp
  refine (callsIn_wide.2 hcomp).mono ?_
  rintro e w2 ⟨rfl, m2, hw2⟩
  obtain ⟨s1, s2⟩ := row_put (d := E ++ List.replicate (S.length - E.length) 0) m2 #[] k1 k2 k3 k4 k5 (by simp; omega) E.length hEl
  rw [Sort.grow_empty, ← hw2] at s1 s2
  rw [List.take_left] at s1
  exact ⟨rfl, s1, s2⟩
theorem asc_rd (E : List Int) (h : E.Pairwise (· < ·)) (m : Nat) (hm : m + 1 < E.length) : rd E (m : Int) ≤ rd E ((m + 1 : Nat) : Int) := by
  have := (List.pairwise_iff_getElem.1 h) m (m + 1) (by omega) hm (by omega)
  unfold rd
  simp only [Int.toNat_natCast, List.getD_eq_getElem?_getD]
  rw [List.getElem?_eq_getElem (by omega), List.getElem?_eq_getElem hm]
  simp only [Option.getD_some]
  omega
theorem y_or {e : Ending} {A B : Prop} (h : (e = .returned (.bool true) ∧ A) ∨ (e = .returned (.bool false) ∧ B)) : ∃ bb, e = .returned (.bool bb) ∧ ((bb = true ∧ A) ∨ (bb = false ∧ B)) := by
  rcases h with ⟨h, h'⟩ | ⟨h, h'⟩
  · exact ⟨true, h, .inl ⟨rfl, h'⟩⟩
  · exact ⟨false, h, .inr ⟨rfl, h'⟩⟩
theorem upTo_prefix (a b : List S41) (E : List Int) (n N : Nat) (h : n ≤ N) : upTo a b E n <+: upTo a b E N := by
  refine ⟨(List.range' n (N - n)).map (pieceAt a b E), ?_⟩
  unfold upTo
  rw [← List.map_append, List.range_eq_range', List.range_eq_range']
  have := List.range'_append (s := 0) (m := n) (n := N - n) (step := 1)
  rw [show 0 + 1 * n = n by omega, show n + (N - n) = N by omega] at this
  rw [this]
/-- The world at the call of yield: the two bits stand in a new block. -/
def W2 (wr : World) (p q : Bool) : World := ((wr.alloc (.cells #[.bool p, .bool q] 80)).drew).drew
theorem w2_below (wr : World) (p q : Bool) : Below wr.heap.size wr (((wr.alloc (.cells #[.bool p, .bool q] 80)).drew).drew) := below_drew1 (below_drew1 (below_alloc (Below.refl _ _) _))
theorem next_round {wr W3 w : World} {base g N c Bo B0 B1 n₀ : Nat} {E : List Int} {v0 v1 : Value} {p q : Bool} (hE : E ≠ []) (h : RowI wr base (.slice (some ⟨g, 0, none⟩) N c) E) (hg : g ≠ Bo) (h0 : Boxed wr B0 22 v0) (h1 : Boxed wr B1 22 v1) (hd0 : B0 ≠ Bo) (hd1 : B1 ≠ Bo) (hb : Below n₀ w wr) (hn : n₀ ≤ wr.heap.size)
    (hk : KpP n₀ Bo (((wr.alloc (.cells #[.bool p, .bool q] 80)).drew).drew) W3) : RowI W3 base (.slice (some ⟨g, 0, none⟩) N c) E ∧ Below n₀ w W3 ∧ Boxed W3 B0 22 v0 ∧ Boxed W3 B1 22 v1 := by
  have hG := grownBy_of_below (w2_below wr p q)
  obtain ⟨g', c', cur, e1, k1, k2, k3, k4, k5, k6⟩ := row_some h hE
  injection e1 with e1 e2 e3
  injection e1 with e1
  injection e1 with e1
  subst e1 e2 e3
  have gl := (Array.getElem?_eq_some_iff.1 k2).1
  have k2' := (hG.block g gl (by simp)).trans k2
  have b0' := h0.kept hG (by simp)
  have b1' := h1.kept hG (by simp)
  refine ⟨⟨by simp, .inr ⟨g, c, cur, rfl, k1, (hk.2 g cur 3 (0, 0) k2' (by decide) hg).trans k2', k3, k4, by omega, by simpa using k6⟩⟩, ?_, (hk.2 B0 _ 22 (0, 0) b0' (by decide) hd0).trans b0', (hk.2 B1 _ 22 (0, 0) b1' (by decide) hd1).trans b1'⟩
  exact (hb.trans ((w2_below wr p q).mono hn)).trans hk.1
set_option maxRecDepth 100000 in
set_option maxHeartbeats 100000000 in
theorem pieces1_in (n : Nat) (hn : 1 ≤ n) (l B0 B1 Bo : Nat) (A0 A1 : Option Addr) (c0 c1 : Nat) (a b : List S41) (ha : a.length ≤ 200) (hb : b.length ≤ 200) (w : World) (hrA0 : Kd.C k41 w A0 a.length a) (hrB0 : Kd.C k41 w A1 b.length b) (hAa : Asc (-1099511627776) a) (hAb : Asc (-1099511627776) b)
    (J Jx : List PieceT → World → Prop) (W : World) (hW : Below w.heap.size w W) (hJ : AbidesFrom W.heap.size J) (hJx : AbidesFrom W.heap.size Jx) (hB0 : Boxed W B0 22 (.slice A0 a.length c0)) (hB1 : Boxed W B1 22 (.slice A1 b.length c1)) (hd0 : B0 ≠ Bo) (hd1 : B1 ≠ Bo) (hBo : Bo < W.heap.size)
    (hY : ∀ pre x W1, J pre W1 → pre.length < (piecesL a b).length → YieldAt Fence.wide (n - 1) Tryz.prog l (encP x) W1 fun e W' => (e = .returned (.bool true) ∧ J (pre ++ [x]) W' ∧ KpP w.heap.size Bo W1 W') ∨ (e = .returned (.bool false) ∧ Jx (pre ++ [x]) W')) (hJ0 : J [] W) :
    CallsIn Fence.wide n Tryz.prog 71 #[.func (.yield l) #[] #[], .pointer (some ⟨B0, 0, none⟩), .pointer (some ⟨B1, 0, none⟩)] W fun e W' => (∃ v, e = .returned v) ∧ ((∃ ys, ys = piecesL a b ∧ J ys W') ∨ (∃ pre, pre <+: piecesL a b ∧ Jx pre W')) := by
  have hrA := Kd.C_below hrA0 hW
  have hrB := Kd.C_below hrB0 hW
  have hu41 := Tryz.underlying41
  have hu97 := Tryz.underlying97
  have hu80 := Tryz.underlying80
  obtain ⟨i0, hi, hz0, hz1, hz2⟩ := info_parts info3
  refine callsIn_of_wp Tryz.func71 rfl trivial ?_ rfl
  simp only [Tryz.ntmps71, List.size_toArray, List.length_cons, List.length_nil, Nat.reduceAdd, Nat.reduceSub, Array.replicate_succ, Array.replicate_zero, List.push_toArray, List.append_toArray, List.nil_append, List.cons_append]
  have hc0 := (hB0.alloc (.cells #[.int .i64 (-1099511627776), .int .i64 1099511627776] 3)).cell
  have hc1 := (hB1.alloc (.cells #[.int .i64 (-1099511627776), .int .i64 1099511627776] 3)).cell
  gi_wp2
  gi_loopw [4, 18] (fun v4 v18 wr => ∃ (o : Int), 0 ≤ o ∧ o ≤ 2 ∧ v18 = .int .i64 o ∧ Aside0 (RowI wr W.heap.size v4 (cutsAt a b o.toNat)) ∧ Aside0 (Below W.heap.size W wr)) (fun _ v18 _ => 2 - (intOf v18).toNat)
  case atStart =>
    refine ⟨0, by omega, by omega, rfl, ⟨?_⟩, ⟨below_alloc (Below.refl _ _) _⟩⟩
    have hh := World.alloc_heap_new W (.cells #[.int .i64 (-1099511627776), .int .i64 1099511627776] 3)
    exact ⟨rfl, .inr ⟨W.heap.size, 2, _, rfl, Nat.le_refl _, hh, Nat.le_refl _, by decide, rfl, rfl⟩⟩
  case round =>
    obtain ⟨o, ho0, ho, rfl, HI, HB⟩ := hrel
    rcases (by omega : o = 0 ∨ o = 1 ∨ o = 2) with rfl | rfl | rfl
    · gi_wp2
      gi_loopw [4, 23] (fun v4 v23 wr => ∃ (i : Nat), i ≤ a.length ∧ v23 = .int .i64 i ∧ Aside0 (RowI wr W.heap.size v4 (cutsAt a b 0 ++ flatS (a.take i))) ∧ Aside0 (Below W.heap.size W wr)) (fun _ v23 _ => a.length - (intOf v23).toNat)
      case atStart => exact ⟨0, by omega, rfl, ⟨by simpa [flatS] using HI.out⟩, HB⟩
      case round =>
        obtain ⟨i, hia, rfl, HI2, HB2⟩ := hrel
        by_cases hlt : i < a.length
        · have hltz : (i : Int) < (a.length : Int) := by omega
          obtain ⟨ad, e, hx0, hx1⟩ := at_T41 (Kd.C_below hrA HB2.out) (i : Int) (by omega) hltz
          subst e
          rw [rd_nat, Int.toNat_natCast] at hx0 hx1
          generalize hy : a.getD i z41 = y at hx0 hx1
          have hrow := HI2.out
          have hsz := HB2.out.size
          have hlen : (cutsAt a b 0 ++ flatS (a.take i)).length ≤ 2000 := by rw [List.length_append, flat_len, List.length_take]; simp [cutsAt, flat_len]; omega
          generalize hcs : cutsAt a b 0 ++ flatS (a.take i) = cs at hrow hlen
          obtain ⟨Ar, cr, her⟩ := row_slice hrow
          subst her
          gi_wp2_with (gi_at_builtin; refine wpListIn_append_own _ rfl _ _ 42 rfl W.heap.size 3 i0 (.int .i64 0) 1 8 Tryz.underlying42 hi hz0 hz1 hz2 rfl (by decide) _ _ _ rfl ((World.ownsRow.alloc hrow _).alloc _) ⟨wr.heap.size + 1, 0, none⟩ 2 2 [.int .i64 y.f0, .int .i64 y.f1] rfl rfl (cell_two_new' wr _ _ _ 3) (by simp [Value.oneCell']) (by unfold maxLen; omega) (by omega) (by simp; omega) ?_; intro v' w1 hown' hgrow _; obtain ⟨g', cap', rfl⟩ := ownsRow_succ hown')
          go_roundw
          case rel =>
            refine ⟨i + 1, by omega, by go_num, ⟨?_⟩, ⟨?_⟩⟩
            · rw [flat_succ a i hlt, ← List.append_assoc, hcs, hy]
              exact row_snoc2 hown'
            · exact (below_alloc (below_alloc HB2.out _) _).grown hgrow (by simp; omega) (fun k hk => row_base hrow k hk)
          case measure => simp [intOf]; omega
        · gi_wp2
          go_roundw
          case rel =>
            refine ⟨0 + 1, by omega, by omega, by go_num, ⟨?_⟩, HB2⟩
            have h2 := HI2.out
            rw [List.take_of_length_le (by omega)] at h2
            exact h2
          case measure => simp [intOf]
    · gi_wp2
      gi_loopw [4, 23] (fun v4 v23 wr => ∃ (i : Nat), i ≤ b.length ∧ v23 = .int .i64 i ∧ Aside0 (RowI wr W.heap.size v4 (cutsAt a b 1 ++ flatS (b.take i))) ∧ Aside0 (Below W.heap.size W wr)) (fun _ v23 _ => b.length - (intOf v23).toNat)
      case atStart => exact ⟨0, by omega, rfl, ⟨by simpa [flatS] using HI.out⟩, HB⟩
      case round =>
        obtain ⟨i, hia, rfl, HI2, HB2⟩ := hrel
        by_cases hlt : i < b.length
        · have hltz : (i : Int) < (b.length : Int) := by omega
          obtain ⟨ad, e, hx0, hx1⟩ := at_T41 (Kd.C_below hrB HB2.out) (i : Int) (by omega) hltz
          subst e
          rw [rd_nat, Int.toNat_natCast] at hx0 hx1
          generalize hy : b.getD i z41 = y at hx0 hx1
          have hrow := HI2.out
          have hsz := HB2.out.size
          have hlen : (cutsAt a b 1 ++ flatS (b.take i)).length ≤ 2000 := by rw [List.length_append, flat_len, List.length_take]; simp [cutsAt, flat_len]; omega
          generalize hcs : cutsAt a b 1 ++ flatS (b.take i) = cs at hrow hlen
          obtain ⟨Ar, cr, her⟩ := row_slice hrow
          subst her
          gi_wp2_with (gi_at_builtin; refine wpListIn_append_own _ rfl _ _ 42 rfl W.heap.size 3 i0 (.int .i64 0) 1 8 Tryz.underlying42 hi hz0 hz1 hz2 rfl (by decide) _ _ _ rfl ((World.ownsRow.alloc hrow _).alloc _) ⟨wr.heap.size + 1, 0, none⟩ 2 2 [.int .i64 y.f0, .int .i64 y.f1] rfl rfl (cell_two_new' wr _ _ _ 3) (by simp [Value.oneCell']) (by unfold maxLen; omega) (by omega) (by simp; omega) ?_; intro v' w1 hown' hgrow _; obtain ⟨g', cap', rfl⟩ := ownsRow_succ hown')
          go_roundw
          case rel =>
            refine ⟨i + 1, by omega, by go_num, ⟨?_⟩, ⟨?_⟩⟩
            · rw [flat_succ b i hlt, ← List.append_assoc, hcs, hy]
              exact row_snoc2 hown'
            · exact (below_alloc (below_alloc HB2.out _) _).grown hgrow (by simp; omega) (fun k hk => row_base hrow k hk)
          case measure => simp [intOf]; omega
        · gi_wp2
          go_roundw
          case rel =>
            refine ⟨1 + 1, by omega, by omega, by go_num, ⟨?_⟩, HB2⟩
            have h2 := HI2.out
            rw [List.take_of_length_le (by omega)] at h2
            exact h2
          case measure => simp [intOf]
    · have hne : cutsAt a b 2 ≠ [] := by simp [cutsAt]
      have hcl : (cutsAt a b 2).length ≤ 2000 := by simp [cutsAt, flat_len]; omega
      have hrow := HI.out
      change RowI wr W.heap.size u4 (cutsAt a b 2) at hrow
      generalize hcs : cutsAt a b 2 = cs at hrow hne hcl
      obtain ⟨g, c, cur, rfl, g1, g2, g3, g4, g5, g6⟩ := row_some hrow hne
      have glt := (Array.getElem?_eq_some_iff.1 g2).1
      obtain ⟨S, HS⟩ : ∃ S, Aside0 (S = cs.mergeSort fun x y => decide (x ≤ y)) := ⟨_, ⟨rfl⟩⟩
      have hSl : S.length = cs.length := by rw [HS.out]; exact List.length_mergeSort _
      have hSne : S ≠ [] := fun h => by rw [h] at hSl; simp at hSl; exact hne (List.eq_nil_of_length_eq_zero hSl.symm)
      have hSn : S.length ≤ 2000 := by omega
      obtain ⟨E, HEe⟩ : ∃ E, Aside0 (E = Lib.compact S) := ⟨_, ⟨rfl⟩⟩
      have hEl : E.length ≤ cs.length := by rw [HEe.out, ← hSl]; exact compact_len S
      gi_wp2_with (first
        | (refine ⟨trivial, ?_⟩; gi_at_call 72; refine (callsIn_wide.2 (Tryz.slices_Sort_int g 0 c cs wr (row_holds g2 g6) glt (by omega))).mono ?_; rintro e w1 ⟨rfl, m1, os1, hw1⟩; rw [← HS.out] at hw1; obtain ⟨r1, r2⟩ := row_put m1 os1 g1 g2 g3 g4 g5 hSl cs.length (Nat.le_refl _); rw [← hw1] at r1 r2; clear hw1; rw [List.take_of_length_le (by omega)] at r1; have hcomp := after_sort (n - 1) r1 hSne hSl HEe.out hSn)
        | (refine ⟨trivial, ?_⟩; gi_at_call 73; refine hcomp.mono ?_; clear hcomp; rintro e w2 ⟨rfl, s1, s2⟩))
      have hB2 : Below W.heap.size W w2 := (HB.out.grown r2 HB.out.size (fun k hk => by cases hk; exact g1)).grown s2 (HB.out.grown r2 HB.out.size (fun k hk => by cases hk; exact g1)).size (fun k hk => by cases hk; exact g1)
      have HJ2 := Aside0.mk (hJ _ _ _ none hJ0 (grownBy_of_below hB2) (fun r e => by cases e))
      have HEc := Aside0.mk (show E = cutsE a b by rw [HEe.out, HS.out, ← hcs]; rfl)
      have hlE : E.length ≤ 2000 := by omega
      have HE2 := Aside0.mk s1
      have HK2 := Aside0.mk (below_then hW hW.size hB2)
      have HX0 := Aside0.mk (hB0.kept (grownBy_of_below hB2) (by simp))
      have HX1 := Aside0.mk (hB1.kept (grownBy_of_below hB2) (by simp))
      clear HEe HS hcs s1 s2 r1 r2 g2 g3 g4 g5 g6 hrow hSl hSne hSn glt hB2 HI HB hne hcl hEl
      have hE1 : 1 ≤ E.length := by rw [HEc.out]; exact List.length_pos_of_mem (((cutsE_spec a b).2.1 _).2 (.inl rfl))
      have HAsc : Aside0 (E.Pairwise (· < ·)) := ⟨by rw [HEc.out]; exact (cutsE_spec a b).1⟩
      have HZ := Aside0.mk (And.intro hd0 (And.intro hd1 (And.intro hBo (And.intro ha hb))))
      have HN := Aside0.mk hn
      have HPl := Aside0.mk (show (piecesL a b).length = E.length - 1 by rw [HEc.out]; exact upTo_len a b _ _)
      have HPx := Aside0.mk (show ∀ q, q ≤ E.length - 1 → upTo a b E q <+: piecesL a b from fun q hq => by rw [show piecesL a b = upTo a b E (E.length - 1) by rw [HEc.out]; rfl]; exact upTo_prefix a b E q _ hq)
      have HG := Aside0.mk (show g ≠ Bo by omega)
      have HW := Aside0.mk (show w.heap.size ≤ W.heap.size from hW.size)
      clear hd0 hd1 hBo ha hb hz1 hz2 g1 ho0 ho hn
      gi_loopw [9, 10, 11] (fun v9 v10 v11 wr => ∃ (i k m : Nat), i ≤ a.length ∧ k ≤ b.length ∧ m < E.length ∧ v9 = .int .i64 i ∧ v10 = .int .i64 k ∧ v11 = .int .i64 m ∧ Aside0 (J (upTo a b E m) wr) ∧ Aside0 (RowI wr W.heap.size (.slice (some ⟨g, 0, none⟩) E.length c) E) ∧ Aside0 (Below w.heap.size w wr) ∧ Aside0 (w.heap.size ≤ wr.heap.size) ∧ Aside0 (Boxed wr B0 22 (.slice A0 a.length c0)) ∧ Aside0 (Boxed wr B1 22 (.slice A1 b.length c1)) ∧ Aside0 (∀ j, j < i → (a.getD j z41).f1 ≤ rd E (m : Int)) ∧ Aside0 (∀ j, j < k → (b.getD j z41).f1 ≤ rd E (m : Int))) (fun _ _ v11 _ => E.length - (intOf v11).toNat)
      case atStart => exact ⟨0, 0, 0, by omega, by omega, by omega, rfl, rfl, rfl, HJ2, HE2, HK2, ⟨HK2.out.size⟩, HX0, HX1, ⟨fun j hj => absurd hj (Nat.not_lt_zero _)⟩, ⟨fun j hj => absurd hj (Nat.not_lt_zero _)⟩⟩
      case round =>
        obtain ⟨i, k, m, hia, hkb, hmE, rfl, rfl, rfl, HJm, HEm, HKm, HWm, HX0m, HX1m, HFa, HFb⟩ := hrel
        clear HJ2 HE2 HK2 HX0 HX1
        by_cases hlt : m + 1 < E.length
        · have hw := wrap_succ (i := m) (n := E.length) (by omega) (by omega)
          have hmz : (m : Int) < (E.length : Int) := by omega
          have hltz : ((m + 1 : Nat) : Int) < (E.length : Int) := by omega
          have hm1 : (m : Int) + 1 < (E.length : Int) := by omega
          have hm0 : (0 : Int) ≤ (m : Int) + 1 := by omega
          have hwi : IntKind.i64.wrap ((m : Int) + 1) = (m : Int) + 1 := by have e : IntKind.i64.wrap ((m : Int) + 1) = wrap64 ((m : Int) + 1) := i64_w _; rw [e, hw]; push_cast; rfl
          have hwn : (IntKind.i64.wrap ((m : Int) + 1)).toNat = m + 1 := by rw [hwi]; omega
          have hq0 : 0 ≤ IntKind.i64.wrap ((m : Int) + 1) := by rw [hwi]; exact hm0
          have hq1 : IntKind.i64.wrap ((m : Int) + 1) < (E.length : Int) := by rw [hwi]; exact hm1
          have hem := row_cell HEm.out m (by omega)
          have hem1 := row_cell HEm.out (m + 1) hlt
          have hbx0 := HX0m.out.cell
          have hbx1 := HX1m.out.cell
          have HK0 := Aside0.mk (fun o => (HX0m.out.alloc o).cell)
          have HK1 := Aside0.mk (fun o => (HX1m.out.alloc o).cell)
          generalize hat : rd E (m : Int) = at_ at hem
          have HAt := Aside0.mk hat
          clear hat
          gi_wp2
          gi_loopw [9] (fun v9 w2 => ∃ i : Nat, i ≤ a.length ∧ v9 = .int .i64 i ∧ w2 = wr ∧ Aside0 (∀ j, j < i → (a.getD j z41).f1 ≤ at_)) (fun v9 _ => a.length - (intOf v9).toNat)
          case atStart => exact ⟨i, hia, rfl, rfl, ⟨by rw [← HAt.out]; exact HFa.out⟩⟩
          case round =>
            clear HFa hia
            obtain ⟨i, hia, rfl, rfl, HFa⟩ := hrel
            by_cases hil : i < a.length
            · have hilz : (i : Int) < (a.length : Int) := Int.ofNat_lt.2 hil
              obtain ⟨ad, e, hx0, hx1⟩ := at_T41 (Kd.C_below hrA0 HKm.out) (i : Int) (Int.natCast_nonneg i) hilz
              subst e
              rw [rd_nat, Int.toNat_natCast] at hx0 hx1
              generalize hy : a.getD i z41 = y at hx0 hx1
              have HKa : Aside0 (∀ o, (wr.alloc o).cell? (ad.add (i * 2)) = some (.int .i64 y.f0)) := ⟨fun o => by
                obtain ⟨ad', e', h, _⟩ := at_T41 (Kd.C_below hrA0 (below_alloc HKm.out o)) (i : Int) (Int.natCast_nonneg i) hilz
                injection e' with e'
                subst e'
                rw [rd_nat, Int.toNat_natCast, hy] at h
                exact h⟩
              have HY := Aside0.mk hy
              clear hy
              by_cases hle : y.f1 ≤ at_
              · gi_wp2
                go_roundw
                case measure => rw [wrap_succ hil (by have := HZ.out.2.2.2.1; omega)]; simp [intOf]; omega
                case rel =>
                  refine ⟨i + 1, hil, (by rw [wrap_succ hil (by have := HZ.out.2.2.2.1; omega)]), (by first | rfl | trivial), ⟨fun j hj => ?_⟩⟩
                  rcases Nat.lt_succ_iff_lt_or_eq.1 hj with hj | rfl
                  · exact HFa.out j hj
                  · rw [HY.out]; exact hle
              · have HMa : Aside0 (memS a at_ = decide (y.f0 ≤ at_)) := ⟨by
                  rw [asc_first a _ at_ i hAa HFa.out (fun _ => by rw [HY.out]; omega), decide_eq_true hil, Bool.true_and, HY.out]⟩
                gi_wp2
                gi_loopw [10] (fun v10 w2 => ∃ k : Nat, k ≤ b.length ∧ v10 = .int .i64 k ∧ w2 = wr ∧ Aside0 (∀ j, j < k → (b.getD j z41).f1 ≤ at_)) (fun v10 _ => b.length - (intOf v10).toNat)
                case atStart => exact ⟨k, hkb, rfl, rfl, ⟨by rw [← HAt.out]; exact HFb.out⟩⟩
                case round =>
                  clear HFb hkb
                  obtain ⟨k, hkb, rfl, rfl, HFb⟩ := hrel
                  by_cases hkl : k < b.length
                  · have hklz : (k : Int) < (b.length : Int) := Int.ofNat_lt.2 hkl
                    obtain ⟨ad2, e, hx2, hx3⟩ := at_T41 (Kd.C_below hrB0 HKm.out) (k : Int) (Int.natCast_nonneg k) hklz
                    subst e
                    rw [rd_nat, Int.toNat_natCast] at hx2 hx3
                    generalize hz : b.getD k z41 = z at hx2 hx3
                    have HKb : Aside0 (∀ o, (wr.alloc o).cell? (ad2.add (k * 2)) = some (.int .i64 z.f0)) := ⟨fun o => by
                      obtain ⟨ad2', e', h, _⟩ := at_T41 (Kd.C_below hrB0 (below_alloc HKm.out o)) (k : Int) (Int.natCast_nonneg k) hklz
                      injection e' with e'
                      subst e'
                      rw [rd_nat, Int.toNat_natCast, hz] at h
                      exact h⟩
                    have HZz := Aside0.mk hz
                    clear hz
                    by_cases hle2 : z.f1 ≤ at_
                    · gi_wp2
                      go_roundw
                      case measure => rw [wrap_succ hkl (by have := HZ.out.2.2.2.2; omega)]; simp [intOf]; omega
                      case rel =>
                        refine ⟨k + 1, hkl, (by rw [wrap_succ hkl (by have := HZ.out.2.2.2.2; omega)]), (by first | rfl | trivial), ⟨fun j hj => ?_⟩⟩
                        rcases Nat.lt_succ_iff_lt_or_eq.1 hj with hj | rfl
                        · exact HFb.out j hj
                        · rw [HZz.out]; exact hle2
                    · have HMb : Aside0 (memS b at_ = decide (z.f0 ≤ at_)) := ⟨by
                        rw [asc_first b _ at_ k hAb HFb.out (fun _ => by rw [HZz.out]; omega), decide_eq_true hkl, Bool.true_and, HZz.out]⟩
                      gi_wp2
                      gi_cut [13] from 81 (fun v13 wc => v13 = .pointer (some ⟨wr.heap.size, 0, none⟩) ∧ wc = (wr.alloc (.cells #[.bool (memS a at_), .bool (memS b at_)] 80)).drew)
                      case first =>
                        refine wpIn_wide.2 ?_
                        refine reg21_tt hbx0 hbx1 HK0 HK1 hx0 HKa hx2 HKb hilz hklz (fun _ _ _ _ h => h) ?_
                        intros
                        gi_wp2_with fail
                        gi_meet
                        exact ⟨rfl, (by rw [HMa.out, HMb.out])⟩
                      case rest =>
                        as_aux_lemma =>
                        obtain ⟨rfl, rfl⟩ := hcut
                        have hEne : E ≠ [] := fun h => by rw [h] at hE1; exact absurd hE1 (by decide)
                        have HXe := Aside0.mk (show upTo a b E m ++ [((⟨at_, rd E ((m : Int) + 1)⟩, (memS a at_, memS b at_)) : PieceT)] = upTo a b E (m + 1) by rw [upTo_succ]; unfold pieceAt; rw [HAt.out]; push_cast; rfl)
                        have HLt := Aside0.mk (show at_ ≤ rd E ((m + 1 : Nat) : Int) by rw [← HAt.out]; exact asc_rd E HAsc.out m hlt)
                        have hJ3 := hJ _ _ _ none HJm.out (grownBy_of_below (w2_below wr (memS a at_) (memS b at_))) (fun r e => by cases e)
                        have hYx := hY (upTo a b E m) (⟨at_, rd E ((m : Int) + 1)⟩, (memS a at_, memS b at_)) _ hJ3 (by rw [upTo_len, HPl.out]; omega)
                        change YieldAt _ _ _ _ #[.agg #[.int .i64 at_, .int .i64 (rd E ((m : Int) + 1))], .agg #[.bool (memS a at_), .bool (memS b at_)]] _ _ at hYx
                        obtain ⟨fn, tmps, assign, body, hy, hR⟩ := hYx
                        have hem1a := row_cell (World.ownsRow.alloc HEm.out (.cells #[.bool (memS a at_), .bool (memS b at_)] 80)) (m + 1) hlt
                        have hn := HN.out
                        gi_wp2
                        gi_region_with (refine hR.mono ?_; intro e W3 h3; obtain ⟨bb, rfl, h4⟩ := y_or h3; clear h3)
                        all_goals
                          rw [HXe.out] at h4
                          have H4 := Aside0.mk h4
                          clear h4 hn hR hy hJ3 hem1a
                          cases bb with
                          | true =>
                            gi_wp2
                            have hk4 := (H4.out.resolve_right (fun h => by cases h.1)).2
                            have hnx := next_round hEne HEm.out HG.out HX0m.out HX1m.out HZ.out.1 HZ.out.2.1 HKm.out HWm.out hk4.2
                            go_roundw
                            case rel => exact ⟨i, k, m + 1, hia, hkb, hlt, rfl, rfl, (by first | rfl | go_num | (simp only [hwi]; push_cast; rfl) | (push_cast; rfl)), ⟨hk4.1⟩, ⟨hnx.1⟩, ⟨hnx.2.1⟩, ⟨hnx.2.1.size⟩, ⟨hnx.2.2.1⟩, ⟨hnx.2.2.2⟩, ⟨fun j hj => Int.le_trans (HFa.out j hj) HLt.out⟩, ⟨fun j hj => Int.le_trans (HFb.out j hj) HLt.out⟩⟩
                            case measure => first | (simp [intOf]; omega) | (simp [intOf, hwi]; omega)
                          | false =>
                            gi_wp2
                            refine bodyPost_ret (results_none rfl _ _ _) rfl ?_
                            exact ⟨⟨_, rfl⟩, .inr ⟨_, HPx.out (m + 1) (by omega), (H4.out.resolve_left (fun h => by cases h.1)).2⟩⟩
                  · have hklz : ¬ (k : Int) < (b.length : Int) := fun h => hkl (Int.ofNat_lt.1 h)
                    have HMb : Aside0 (memS b at_ = false) := ⟨by
                      rw [asc_first b _ at_ k hAb HFb.out (fun h => absurd h hkl), decide_eq_false hkl, Bool.false_and]⟩
                    gi_wp2
                    gi_cut [13] from 81 (fun v13 wc => v13 = .pointer (some ⟨wr.heap.size, 0, none⟩) ∧ wc = (wr.alloc (.cells #[.bool (memS a at_), .bool (memS b at_)] 80)).drew)
                    case first =>
                      refine wpIn_wide.2 ?_
                      refine reg21_tf hbx0 hbx1 HK0 HK1 hx0 HKa hilz (Int.not_lt.2 hklz) (fun _ _ _ _ h => h) ?_
                      intros
                      gi_wp2_with fail
                      gi_meet
                      exact ⟨rfl, (by rw [HMa.out, HMb.out])⟩
                    case rest =>
                      as_aux_lemma =>
                      obtain ⟨rfl, rfl⟩ := hcut
                      have hEne : E ≠ [] := fun h => by rw [h] at hE1; exact absurd hE1 (by decide)
                      have HXe := Aside0.mk (show upTo a b E m ++ [((⟨at_, rd E ((m : Int) + 1)⟩, (memS a at_, memS b at_)) : PieceT)] = upTo a b E (m + 1) by rw [upTo_succ]; unfold pieceAt; rw [HAt.out]; push_cast; rfl)
                      have HLt := Aside0.mk (show at_ ≤ rd E ((m + 1 : Nat) : Int) by rw [← HAt.out]; exact asc_rd E HAsc.out m hlt)
                      have hJ3 := hJ _ _ _ none HJm.out (grownBy_of_below (w2_below wr (memS a at_) (memS b at_))) (fun r e => by cases e)
                      have hYx := hY (upTo a b E m) (⟨at_, rd E ((m : Int) + 1)⟩, (memS a at_, memS b at_)) _ hJ3 (by rw [upTo_len, HPl.out]; omega)
                      change YieldAt _ _ _ _ #[.agg #[.int .i64 at_, .int .i64 (rd E ((m : Int) + 1))], .agg #[.bool (memS a at_), .bool (memS b at_)]] _ _ at hYx
                      obtain ⟨fn, tmps, assign, body, hy, hR⟩ := hYx
                      have hem1a := row_cell (World.ownsRow.alloc HEm.out (.cells #[.bool (memS a at_), .bool (memS b at_)] 80)) (m + 1) hlt
                      have hn := HN.out
                      gi_wp2
                      gi_region_with (refine hR.mono ?_; intro e W3 h3; obtain ⟨bb, rfl, h4⟩ := y_or h3; clear h3)
                      all_goals
                        rw [HXe.out] at h4
                        have H4 := Aside0.mk h4
                        clear h4 hn hR hy hJ3 hem1a
                        cases bb with
                        | true =>
                          gi_wp2
                          have hk4 := (H4.out.resolve_right (fun h => by cases h.1)).2
                          have hnx := next_round hEne HEm.out HG.out HX0m.out HX1m.out HZ.out.1 HZ.out.2.1 HKm.out HWm.out hk4.2
                          go_roundw
                          case rel => exact ⟨i, k, m + 1, hia, hkb, hlt, rfl, rfl, (by first | rfl | go_num | (simp only [hwi]; push_cast; rfl) | (push_cast; rfl)), ⟨hk4.1⟩, ⟨hnx.1⟩, ⟨hnx.2.1⟩, ⟨hnx.2.1.size⟩, ⟨hnx.2.2.1⟩, ⟨hnx.2.2.2⟩, ⟨fun j hj => Int.le_trans (HFa.out j hj) HLt.out⟩, ⟨fun j hj => Int.le_trans (HFb.out j hj) HLt.out⟩⟩
                          case measure => first | (simp [intOf]; omega) | (simp [intOf, hwi]; omega)
                        | false =>
                          gi_wp2
                          refine bodyPost_ret (results_none rfl _ _ _) rfl ?_
                          exact ⟨⟨_, rfl⟩, .inr ⟨_, HPx.out (m + 1) (by omega), (H4.out.resolve_left (fun h => by cases h.1)).2⟩⟩
            · have hilz : ¬ (i : Int) < (a.length : Int) := fun h => hil (Int.ofNat_lt.1 h)
              have HMa : Aside0 (memS a at_ = false) := ⟨by
                rw [asc_first a _ at_ i hAa HFa.out (fun h => absurd h hil), decide_eq_false hil, Bool.false_and]⟩
              gi_wp2
              gi_loopw [10] (fun v10 w2 => ∃ k : Nat, k ≤ b.length ∧ v10 = .int .i64 k ∧ w2 = wr ∧ Aside0 (∀ j, j < k → (b.getD j z41).f1 ≤ at_)) (fun v10 _ => b.length - (intOf v10).toNat)
              case atStart => exact ⟨k, hkb, rfl, rfl, ⟨by rw [← HAt.out]; exact HFb.out⟩⟩
              case round =>
                clear HFb hkb
                obtain ⟨k, hkb, rfl, rfl, HFb⟩ := hrel
                by_cases hkl : k < b.length
                · have hklz : (k : Int) < (b.length : Int) := Int.ofNat_lt.2 hkl
                  obtain ⟨ad2, e, hx2, hx3⟩ := at_T41 (Kd.C_below hrB0 HKm.out) (k : Int) (Int.natCast_nonneg k) hklz
                  subst e
                  rw [rd_nat, Int.toNat_natCast] at hx2 hx3
                  generalize hz : b.getD k z41 = z at hx2 hx3
                  have HKb : Aside0 (∀ o, (wr.alloc o).cell? (ad2.add (k * 2)) = some (.int .i64 z.f0)) := ⟨fun o => by
                    obtain ⟨ad2', e', h, _⟩ := at_T41 (Kd.C_below hrB0 (below_alloc HKm.out o)) (k : Int) (Int.natCast_nonneg k) hklz
                    injection e' with e'
                    subst e'
                    rw [rd_nat, Int.toNat_natCast, hz] at h
                    exact h⟩
                  have HZz := Aside0.mk hz
                  clear hz
                  by_cases hle2 : z.f1 ≤ at_
                  · gi_wp2
                    go_roundw
                    case measure => rw [wrap_succ hkl (by have := HZ.out.2.2.2.2; omega)]; simp [intOf]; omega
                    case rel =>
                      refine ⟨k + 1, hkl, (by rw [wrap_succ hkl (by have := HZ.out.2.2.2.2; omega)]), (by first | rfl | trivial), ⟨fun j hj => ?_⟩⟩
                      rcases Nat.lt_succ_iff_lt_or_eq.1 hj with hj | rfl
                      · exact HFb.out j hj
                      · rw [HZz.out]; exact hle2
                  · have HMb : Aside0 (memS b at_ = decide (z.f0 ≤ at_)) := ⟨by
                      rw [asc_first b _ at_ k hAb HFb.out (fun _ => by rw [HZz.out]; omega), decide_eq_true hkl, Bool.true_and, HZz.out]⟩
                    gi_wp2
                    gi_cut [13] from 81 (fun v13 wc => v13 = .pointer (some ⟨wr.heap.size, 0, none⟩) ∧ wc = (wr.alloc (.cells #[.bool (memS a at_), .bool (memS b at_)] 80)).drew)
                    case first =>
                      refine wpIn_wide.2 ?_
                      refine reg21_ft hbx0 hbx1 HK0 HK1 hx2 HKb (Int.not_lt.2 hilz) hklz (fun _ _ _ _ h => h) ?_
                      intros
                      gi_wp2_with fail
                      gi_meet
                      exact ⟨rfl, (by rw [HMa.out, HMb.out])⟩
                    case rest =>
                      as_aux_lemma =>
                      obtain ⟨rfl, rfl⟩ := hcut
                      have hEne : E ≠ [] := fun h => by rw [h] at hE1; exact absurd hE1 (by decide)
                      have HXe := Aside0.mk (show upTo a b E m ++ [((⟨at_, rd E ((m : Int) + 1)⟩, (memS a at_, memS b at_)) : PieceT)] = upTo a b E (m + 1) by rw [upTo_succ]; unfold pieceAt; rw [HAt.out]; push_cast; rfl)
                      have HLt := Aside0.mk (show at_ ≤ rd E ((m + 1 : Nat) : Int) by rw [← HAt.out]; exact asc_rd E HAsc.out m hlt)
                      have hJ3 := hJ _ _ _ none HJm.out (grownBy_of_below (w2_below wr (memS a at_) (memS b at_))) (fun r e => by cases e)
                      have hYx := hY (upTo a b E m) (⟨at_, rd E ((m : Int) + 1)⟩, (memS a at_, memS b at_)) _ hJ3 (by rw [upTo_len, HPl.out]; omega)
                      change YieldAt _ _ _ _ #[.agg #[.int .i64 at_, .int .i64 (rd E ((m : Int) + 1))], .agg #[.bool (memS a at_), .bool (memS b at_)]] _ _ at hYx
                      obtain ⟨fn, tmps, assign, body, hy, hR⟩ := hYx
                      have hem1a := row_cell (World.ownsRow.alloc HEm.out (.cells #[.bool (memS a at_), .bool (memS b at_)] 80)) (m + 1) hlt
                      have hn := HN.out
                      gi_wp2
                      gi_region_with (refine hR.mono ?_; intro e W3 h3; obtain ⟨bb, rfl, h4⟩ := y_or h3; clear h3)
                      all_goals
                        rw [HXe.out] at h4
                        have H4 := Aside0.mk h4
                        clear h4 hn hR hy hJ3 hem1a
                        cases bb with
                        | true =>
                          gi_wp2
                          have hk4 := (H4.out.resolve_right (fun h => by cases h.1)).2
                          have hnx := next_round hEne HEm.out HG.out HX0m.out HX1m.out HZ.out.1 HZ.out.2.1 HKm.out HWm.out hk4.2
                          go_roundw
                          case rel => exact ⟨i, k, m + 1, hia, hkb, hlt, rfl, rfl, (by first | rfl | go_num | (simp only [hwi]; push_cast; rfl) | (push_cast; rfl)), ⟨hk4.1⟩, ⟨hnx.1⟩, ⟨hnx.2.1⟩, ⟨hnx.2.1.size⟩, ⟨hnx.2.2.1⟩, ⟨hnx.2.2.2⟩, ⟨fun j hj => Int.le_trans (HFa.out j hj) HLt.out⟩, ⟨fun j hj => Int.le_trans (HFb.out j hj) HLt.out⟩⟩
                          case measure => first | (simp [intOf]; omega) | (simp [intOf, hwi]; omega)
                        | false =>
                          gi_wp2
                          refine bodyPost_ret (results_none rfl _ _ _) rfl ?_
                          exact ⟨⟨_, rfl⟩, .inr ⟨_, HPx.out (m + 1) (by omega), (H4.out.resolve_left (fun h => by cases h.1)).2⟩⟩
                · have hklz : ¬ (k : Int) < (b.length : Int) := fun h => hkl (Int.ofNat_lt.1 h)
                  have HMb : Aside0 (memS b at_ = false) := ⟨by
                    rw [asc_first b _ at_ k hAb HFb.out (fun h => absurd h hkl), decide_eq_false hkl, Bool.false_and]⟩
                  gi_wp2
                  gi_cut [13] from 81 (fun v13 wc => v13 = .pointer (some ⟨wr.heap.size, 0, none⟩) ∧ wc = (wr.alloc (.cells #[.bool (memS a at_), .bool (memS b at_)] 80)).drew)
                  case first =>
                    refine wpIn_wide.2 ?_
                    refine reg21_ff hbx0 hbx1 HK0 HK1 (Int.not_lt.2 hilz) (Int.not_lt.2 hklz) (fun _ _ _ _ h => h) ?_
                    intros
                    gi_wp2_with fail
                    gi_meet
                    exact ⟨rfl, (by rw [HMa.out, HMb.out])⟩
                  case rest =>
                    as_aux_lemma =>
                    obtain ⟨rfl, rfl⟩ := hcut
                    have hEne : E ≠ [] := fun h => by rw [h] at hE1; exact absurd hE1 (by decide)
                    have HXe := Aside0.mk (show upTo a b E m ++ [((⟨at_, rd E ((m : Int) + 1)⟩, (memS a at_, memS b at_)) : PieceT)] = upTo a b E (m + 1) by rw [upTo_succ]; unfold pieceAt; rw [HAt.out]; push_cast; rfl)
                    have HLt := Aside0.mk (show at_ ≤ rd E ((m + 1 : Nat) : Int) by rw [← HAt.out]; exact asc_rd E HAsc.out m hlt)
                    have hJ3 := hJ _ _ _ none HJm.out (grownBy_of_below (w2_below wr (memS a at_) (memS b at_))) (fun r e => by cases e)
                    have hYx := hY (upTo a b E m) (⟨at_, rd E ((m : Int) + 1)⟩, (memS a at_, memS b at_)) _ hJ3 (by rw [upTo_len, HPl.out]; omega)
                    change YieldAt _ _ _ _ #[.agg #[.int .i64 at_, .int .i64 (rd E ((m : Int) + 1))], .agg #[.bool (memS a at_), .bool (memS b at_)]] _ _ at hYx
                    obtain ⟨fn, tmps, assign, body, hy, hR⟩ := hYx
                    have hem1a := row_cell (World.ownsRow.alloc HEm.out (.cells #[.bool (memS a at_), .bool (memS b at_)] 80)) (m + 1) hlt
                    have hn := HN.out
                    gi_wp2
                    gi_region_with (refine hR.mono ?_; intro e W3 h3; obtain ⟨bb, rfl, h4⟩ := y_or h3; clear h3)
                    all_goals
                      rw [HXe.out] at h4
                      have H4 := Aside0.mk h4
                      clear h4 hn hR hy hJ3 hem1a
                      cases bb with
                      | true =>
                        gi_wp2
                        have hk4 := (H4.out.resolve_right (fun h => by cases h.1)).2
                        have hnx := next_round hEne HEm.out HG.out HX0m.out HX1m.out HZ.out.1 HZ.out.2.1 HKm.out HWm.out hk4.2
                        go_roundw
                        case rel => exact ⟨i, k, m + 1, hia, hkb, hlt, rfl, rfl, (by first | rfl | go_num | (simp only [hwi]; push_cast; rfl) | (push_cast; rfl)), ⟨hk4.1⟩, ⟨hnx.1⟩, ⟨hnx.2.1⟩, ⟨hnx.2.1.size⟩, ⟨hnx.2.2.1⟩, ⟨hnx.2.2.2⟩, ⟨fun j hj => Int.le_trans (HFa.out j hj) HLt.out⟩, ⟨fun j hj => Int.le_trans (HFb.out j hj) HLt.out⟩⟩
                        case measure => first | (simp [intOf]; omega) | (simp [intOf, hwi]; omega)
                      | false =>
                        gi_wp2
                        refine bodyPost_ret (results_none rfl _ _ _) rfl ?_
                        exact ⟨⟨_, rfl⟩, .inr ⟨_, HPx.out (m + 1) (by omega), (H4.out.resolve_left (fun h => by cases h.1)).2⟩⟩
        · have hltz : ¬ wrap64 ((m : Int) + 1) < (E.length : Int) := by rw [wrap_succ (i := m) (n := E.length) hmE (by omega)]; omega
          gi_wp2
          go_end0
          have ep : upTo a b E m = piecesL a b := by rw [show m = E.length - 1 by omega, HEc.out]; rfl
          refine ⟨⟨_, rfl⟩, .inl ?_⟩
          first | exact ep ▸ HJm.out | exact ⟨_, rfl, ep ▸ HJm.out⟩
theorem pieces_stops (n : Nat) (hn : 1 ≤ n) (B0 B1 Bo : Nat) (A0 A1 : Option Addr) (c0 c1 : Nat) (a b : List S41) (ha : a.length ≤ 200) (hb : b.length ≤ 200) (w2 w : World) (h2 : Below w2.heap.size w2 w) (hrA0 : Kd.C k41 w2 A0 a.length a) (hrB0 : Kd.C k41 w2 A1 b.length b) (hAa : Asc (-1099511627776) a) (hAb : Asc (-1099511627776) b)
    (hB0 : Boxed w B0 22 (.slice A0 a.length c0)) (hB1 : Boxed w B1 22 (.slice A1 b.length c1)) (hd0 : B0 ≠ Bo) (hd1 : B1 ≠ Bo) (hBo : Bo < w.heap.size) :
    SeqStopsK Fence.wide n Tryz.prog 71 #[.pointer (some ⟨B0, 0, none⟩), .pointer (some ⟨B1, 0, none⟩)] encP (KpP w2.heap.size Bo) (fun ys => ys = piecesL a b) (fun pre => pre <+: piecesL a b) (piecesL a b).length w := fun l J Jx W hW hJ hJx hY h0 =>
  pieces1_in n hn l B0 B1 Bo A0 A1 c0 c1 a b ha hb w2 hrA0 hrB0 hAa hAb J Jx W (h2.trans (hW.mono h2.size)) hJ hJx ((hW.block B0 hB0.lt).trans hB0) ((hW.block B1 hB1.lt).trans hB1) hd0 hd1 (Nat.lt_of_lt_of_le hBo hW.size) hY h0
end Go.Proofs.YtmomcbhgggggnaaGreatDoor.Pr
end
section
namespace Go.Proofs.YtmomcbhgggggnaaGreatDoor.Pr
open Go.RowKit Go.Shelf Go.Proofs.YtmomcbhgggggnaaGreatDoorW.PrintWords Go.Proofs.YtmomcbhgggggnaaGreatDoorW.PrintLast Go.Proofs.YtmomcbhgggggnaaGreatDoorW.PrintMore
attribute [local go_sem] Oper.semAt_some
set_option linter.unusedVariables false
set_option linter.unusedSimpArgs false
/-- A rule: a function of two truths. -/
def RuleQ (g : Nat) (q : Bool → Bool → Bool) : Prop := ∀ (x y : Bool) (w : World), Calls Tryz.prog g #[.bool x, .bool y] w fun e w' => e = .returned (.bool (q x y)) ∧ w' = w
theorem rule32 : RuleQ 32 (keepsB 0) := by
  intro x y w
  cases x <;> cases y <;> (go_enter Tryz.func32, Tryz.ntmps32; go_wp2; go_ret; exact ⟨rfl, rfl⟩)
theorem rule33 : RuleQ 33 (keepsB 1) := by
  intro x y w
  cases x <;> cases y <;> (go_enter Tryz.func33, Tryz.ntmps33; go_wp2; go_ret; exact ⟨rfl, rfl⟩)
theorem grownBy_putObj' (W : World) (l : Nat) (o : Obj) : W.grownBy (W.putObj l o) (some l) :=
  ⟨rfl, rfl, rfl, by simp, fun k _ hk => World.putObj_heap_other (fun e => hk (by rw [e]))⟩
def flatV (l : List S41) : List Value := l.flatMap (fun s => [.int .i64 s.f0, .int .i64 s.f1])
theorem kpP_t {n₀ B : Nat} {X Y Z : World} (h : KpP n₀ B X Y) (h' : KpP n₀ B Y Z) : KpP n₀ B X Z := ⟨h.1.trans h'.1, fun k cur t f hk ht hB => (h'.2 k cur t f ((h.2 k cur t f hk ht hB).trans hk) ht hB).trans (h.2 k cur t f hk ht hB)⟩
theorem kpP_b {n₀ B N : Nat} (hN : n₀ ≤ N) (W : World) (l : Nat) (o o' : Obj) (hl : N ≤ l) (ho : W.heap[l]? = some o) (hc : o.isCells = false) (hw : o.isWalk = false) : KpP n₀ B W (W.putObj l o') := by
  refine ⟨(Below.refl n₀ W).grown (grownBy_putObj' W l o') ?_ (fun k e => by cases e; omega), fun k cur t f hk ht hB => World.putObj_heap_other (fun e => ?_)⟩
  · have := (Array.getElem?_eq_some_iff.1 ho).1
    omega
  · subst e
    rw [ho] at hk
    cases hk
    cases hc
theorem flatV_reps_go (w : World) (base : Nat) (ok : Nat → Prop) : ∀ (m l : List S41) (cs : List Value), Reps (k41.M w base ok) 2 l cs → Reps (k41.M w base ok) 2 (l ++ m) (cs ++ flatV m)
  | [], l, cs, h => by simpa [flatV] using h
  | x :: m, l, cs, h => by
    have h1 := flatV_reps_go w base ok m (l ++ [x]) (cs ++ [.int .i64 x.f0, .int .i64 x.f1]) (Reps.snoc h (k41_mkM w base ok x) rfl)
    have e1 : l ++ x :: m = l ++ [x] ++ m := by simp
    have e2 : cs ++ flatV (x :: m) = cs ++ [.int .i64 x.f0, .int .i64 x.f1] ++ flatV m := by simp [flatV]
    rw [e1, e2]
    exact h1
theorem flatV_reps (w : World) (base : Nat) (ok : Nat → Prop) (l : List S41) : Reps (k41.M w base ok) 2 l (flatV l) := flatV_reps_go w base ok l [] [] (Reps.none _ _)
theorem pieces_le (a b : List S41) : (piecesL a b).length ≤ 2 * a.length + 2 * b.length + 2 := by
  have h1 : (piecesL a b).length = (cutsE a b).length - 1 := upTo_len a b _ _
  have h2 : (cutsE a b).length ≤ ((cutsAt a b 2).mergeSort fun x y => decide (x ≤ y)).length := compact_len _
  rw [List.length_mergeSort] at h2
  have h3 : (cutsAt a b 2).length ≤ 2 * a.length + 2 * b.length + 2 := by simp [cutsAt, flat_len]; try omega
  omega
theorem kp_appended {W w1 : World} {n₀ B size k : Nat} {v v' : Value} {xs : List Value} {tmp : Obj} (hrow : W.ownsRow n₀ 41 size v k xs) (hgrow : (W.alloc tmp).grownBy w1 v.ownBlock) (p5 : Below n₀ W (w1.setCell ⟨B, 0, none⟩ v')) : KpP n₀ B W (w1.setCell ⟨B, 0, none⟩ v') := by
  refine ⟨p5, fun j cur t f hj ht hB => ?_⟩
  have hlt := (Array.getElem?_eq_some_iff.1 hj).1
  refine (Below.heap_setCell _ _ _ j (fun e => hB e)).trans ((hgrow.block j (by simp; omega) (fun e => ?_)).trans (Below.heap_alloc _ _ j hlt))
  rcases hrow.2 with ⟨rfl, _⟩ | ⟨g, cap, cur', rfl, _, hgb, _⟩
  · simp [Value.ownBlock] at e
  · obtain rfl : j = g := by simpa [Value.ownBlock] using e
    rw [hgb] at hj
    cases hj
    exact ht rfl
set_option maxRecDepth 100000 in
set_option maxHeartbeats 8000000 in
theorem chosen_in (n : Nat) (hn : 4 ≤ n) (g : Nat) (q : Bool → Bool → Bool) (hq : RuleQ g q) (eg : ∀ args w, (callFunc g args).run Tryz.prog w = .ok (.enter g args) w) (A0 A1 : Option Addr) (c0 c1 : Nat) (a b : List S41) (w : World) (hr0 : Kd.C k41 w A0 a.length a) (hc0 : a.length ≤ c0) (hr1 : Kd.C k41 w A1 b.length b) (hc1 : b.length ≤ c1) (hva : validS a = true) (hvb : validS b = true)
    (r rl : List S41) (rc : Int) (hr : jn (chz q (piecesL a b)) none = r) (hrl : (if r.length > 128 then (([] : List S41), (8 : Int)) else (r, 0)) = (rl, rc)) :
    CallsIn Fence.wide n Tryz.prog 31 #[.slice A0 a.length c0, .slice A1 b.length c1, .func (.func g) #[] #[]] w fun e w' => ∃ v0_ : Value, e = .returned (.tuple #[v0_, .int .i64 rc]) ∧ Kd.R k41 41 w' w.heap.size (fun _ => True) v0_ rl ∧ Below w.heap.size w w' := by
  have h1 : 1 ≤ n := by omega
  have hu41 := Tryz.underlying41
  obtain ⟨la, hAa⟩ := asc_valid hva
  obtain ⟨lb, hAb⟩ := asc_valid hvb
  obtain ⟨k1, hk1⟩ := (spanValid_ev a hr0.2.1).rounds
  obtain ⟨k2, hk2⟩ := (spanValid_ev b hr1.2.1).rounds
  rw [hva] at hk1
  rw [hvb] at hk2
  have HR0 := Aside0.mk hr0
  have HR1 := Aside0.mk hr1
  have HC0 := Aside0.mk hc0
  have HC1 := Aside0.mk hc1
  have HV1 := Aside0.mk hk1
  have HV2 := Aside0.mk hk2
  have HVa := Aside0.mk hva
  have HVb := Aside0.mk hvb
  have HAa := Aside0.mk hAa
  have HAb := Aside0.mk hAb
  have HL := Aside0.mk (And.intro la lb)
  have HQ := Aside0.mk hq
  have HRr := Aside0.mk hr
  have HRl := Aside0.mk hrl
  clear hr hrl
  have HB0 := Aside0.mk (below_alloc (Below.refl w.heap.size w) (.cells #[.func (.func g) #[] #[]] 59))
  clear hr0 hr1 hc0 hc1 hk1 hk2 hva hvb la lb hq hAa hAb
  refine callsIn_of_wp_marks Tryz.func31 rfl trivial ?_ rfl
  simp only [Tryz.ntmps31, List.size_toArray, List.length_cons, List.length_nil, Nat.reduceAdd, Nat.reduceSub, Array.replicate_succ, Array.replicate_zero, List.push_toArray, List.append_toArray, List.nil_append, List.cons_append]
  gi_wp2_with (refine ⟨trivial, ?_⟩; gi_at_call 22; (with_reducible refine (callsIn_wide.2 (span_Valid.calls k1 _ _ a true _ (Kd.C_below HR0.out HB0.out) HC0.out HV1.out)).mono ?_); rintro e w1 ⟨rfl, hb1⟩)
  have HB1 := Aside0.mk (below_then HB0.out HB0.out.size hb1)
  have HX1 := Aside0.mk (show Boxed w1 w.heap.size 59 (.func (.func g) #[] #[]) from (hb1.block _ (Boxed.new w 59 (.func (.func g) #[] #[])).lt).trans (Boxed.new w 59 (.func (.func g) #[] #[])))
  clear hb1
  gi_wp2_with (refine ⟨trivial, ?_⟩; gi_at_call 22; (with_reducible refine (callsIn_wide.2 (span_Valid.calls k2 _ _ b true _ (Kd.C_below HR1.out HB1.out) HC1.out HV2.out)).mono ?_); rintro e w2 ⟨rfl, hb2⟩)
  have HB2 := Aside0.mk (below_then HB1.out HB1.out.size hb2)
  have HX2 := Aside0.mk (show Boxed w2 w.heap.size 59 (.func (.func g) #[] #[]) from (hb2.block _ HX1.out.lt).trans HX1.out)
  clear hb2
  gi_wp2_with (refine ⟨trivial, ?_⟩; gi_at_call 52; refine (pieces_in Fence.wide (n - 1) trivial rfl _ _ _ _ _ _ _).mono ?_; rintro e w' ⟨rfl, rfl⟩)
  have bO := ((Boxed.new w2 22 (.slice none 0 0)).alloc (.cells #[.slice A0 a.length c0] 22)).alloc (.cells #[.slice A1 b.length c1] 22)
  have bA := (Boxed.new (w2.alloc (.cells #[.slice none 0 0] 22)) 22 (.slice A0 a.length c0)).alloc (.cells #[.slice A1 b.length c1] 22)
  have bB := Boxed.new ((w2.alloc (.cells #[.slice none 0 0] 22)).alloc (.cells #[.slice A0 a.length c0] 22)) 22 (.slice A1 b.length c1)
  have bR := ((HX2.out.alloc (.cells #[.slice none 0 0] 22)).alloc (.cells #[.slice A0 a.length c0] 22)).alloc (.cells #[.slice A1 b.length c1] 22)
  simp only [World.size_alloc] at bA bB
  have hBW : Below w2.heap.size w2 (((w2.alloc (.cells #[.slice none 0 0] 22)).alloc (.cells #[.slice A0 a.length c0] 22)).alloc (.cells #[.slice A1 b.length c1] 22)) := below_alloc (below_alloc (below_alloc (Below.refl _ _) _) _) _
  have hsz : (((w2.alloc (.cells #[.slice none 0 0] 22)).alloc (.cells #[.slice A0 a.length c0] 22)).alloc (.cells #[.slice A1 b.length c1] 22)).heap.size = w2.heap.size + 3 := by simp
  have hll := HL.out
  have hnw := HX2.out.lt
  obtain ⟨W0, hW0⟩ : ∃ W0, ((w2.alloc (.cells #[.slice none 0 0] 22)).alloc (.cells #[.slice A0 a.length c0] 22)).alloc (.cells #[.slice A1 b.length c1] 22) = W0 := ⟨_, rfl⟩
  rw [hW0] at bO bA bB bR hBW hsz ⊢
  clear hW0
  refine wpIn_rangeFunc_ownH rfl h1 (gf := 71) (lb := #[.pointer (some ⟨w2.heap.size + 1, 0, none⟩), .pointer (some ⟨w2.heap.size + 1 + 1, 0, none⟩)]) rfl trivial (enters_of Tryz.func71 (by kernel_rfl) rfl)
    (pieces_stops (n - 1) (by omega) (w2.heap.size + 1) (w2.heap.size + 1 + 1) w2.heap.size A0 A1 c0 c1 a b (by omega) (by omega) w2 W0 hBW (Kd.C_below HR0.out HB2.out) (Kd.C_below HR1.out HB2.out) HAa.out HAb.out bA bB (by omega) (by omega) (by omega))
    kpP_t (kpP_b (by omega)) (Below.refl _ _) (fun _ => rfl)
    (fun pre W => ((∃ v, Boxed W w2.heap.size 22 v ∧ W.ownsRow w2.heap.size 41 2 v (chz q pre).length (flatV (chz q pre)) ∧ True) ∧ Boxed W w.heap.size 59 (.func (.func g) #[] #[])) ∧ Below w2.heap.size w2 W)
    (fun _ _ _ => False)
    (OwnFrom.and (OwnFrom.and (Own.from (holdsRow_own w2.heap.size w2.heap.size 22 41 2 (fun pre : List PieceT => (chz q pre).length) (fun pre => flatV (chz q pre)) (fun _ _ => True)) _) (Own.from (boxed_own _ _ _) _)) (ownFrom_below (Nat.le_refl _) (by omega)))
    (fun _ _ _ _ _ hs _ _ => hs)
    ⟨⟨⟨_, bO, ⟨rfl, .inl ⟨rfl, rfl⟩⟩, trivial⟩, bR⟩, hBW⟩
    (fun x a' W => ∃ Bs Bi, w2.heap.size < Bs ∧ w2.heap.size < Bi ∧ W.heap[Bs]? = some (.cells #[.int .i64 x.1.f0, .int .i64 x.1.f1] 41 (0, 0)) ∧ W.heap[Bi]? = some (.cells #[.bool x.2.1, .bool x.2.2] 80 (0, 0)) ∧ a' = { tmps := #[.slice A0 a.length c0, .slice A1 b.length c1, .func (.func g) #[] #[], undef, undef, .pointer (some ⟨w.heap.size, 0, none⟩), .slice none 0 0, .int .i64 0, .pointer (some ⟨w2.heap.size, 0, none⟩), .pointer (some ⟨Bs, 0, none⟩), .pointer (some ⟨Bi, 0, none⟩), .slice A0 a.length c0, .bool true, .bool false, .bool false, .slice A1 b.length c1, .bool true, .bool false, .bool false, .slice A0 a.length c0, .slice A1 b.length c1, .func (.func 71) #[] #[.pointer (some ⟨w2.heap.size + 1, 0, none⟩), .pointer (some ⟨w2.heap.size + 1 + 1, 0, none⟩)], .agg #[.int .i64 x.1.f0, .int .i64 x.1.f1], .agg #[.bool x.2.1, .bool x.2.2], undef, undef, undef, undef, undef, undef, undef, undef, undef, undef, undef, undef, undef, undef, undef, undef], defers := [] })
    ?ax ?assign ?body ?done ?stop
  case ax =>
    intro x a' _ X Y row hs hg hr
    obtain ⟨Bs, Bi, h1, h2, h3, h4, h5⟩ := hs
    exact ⟨Bs, Bi, h1, h2, (hg.block Bs (Array.getElem?_eq_some_iff.1 h3).1 (fun e => by obtain ⟨o, ho, hc⟩ := (hr Bs e.symm).2; rw [h3] at ho; cases ho; cases hc)).trans h3, (hg.block Bi (Array.getElem?_eq_some_iff.1 h4).1 (fun e => by obtain ⟨o, ho, hc⟩ := (hr Bi e.symm).2; rw [h4] at ho; cases ho; cases hc)).trans h4, h5⟩
  case assign =>
    rintro l pre x W K ⟨⟨⟨v, bO1, hrow, _⟩, bR1⟩, hB1⟩ hK
    have hs1 := bO1.lt
    have hu80 := Tryz.underlying80
    unfold encP
    gi_wp2
    have hb2 : Below w2.heap.size W ((W.alloc (.cells #[.int .i64 x.1.f0, .int .i64 x.1.f1] 41)).alloc (.cells #[.bool x.2.1, .bool x.2.2] 80)) := (below_alloc (below_alloc (Below.refl W.heap.size W) _) _).mono hB1.size
    have hn1 := World.alloc_heap_new W (.cells #[.int .i64 x.1.f0, .int .i64 x.1.f1] 41)
    have hn2 := World.alloc_heap_new (W.alloc (.cells #[.int .i64 x.1.f0, .int .i64 x.1.f1] 41)) (.cells #[.bool x.2.1, .bool x.2.2] 80)
    rw [World.size_alloc] at hn2
    exact hK _ _ (((KeepsOthers.alloc _ _).trans (KeepsOthers.alloc _ _)).from _)
      ⟨hb2, fun k cur t f hk _ _ => by
        have hlt := (Array.getElem?_eq_some_iff.1 hk).1
        exact (Below.heap_alloc _ _ k (by simp; omega)).trans (Below.heap_alloc _ _ k hlt)⟩
      ⟨⟨⟨v, (bO1.alloc _).alloc _, (hrow.alloc _).alloc _, trivial⟩, (bR1.alloc _).alloc _⟩, hB1.trans hb2⟩
      ⟨W.heap.size, W.heap.size + 1, hs1, by omega, (Below.heap_alloc _ _ W.heap.size (by simp)).trans hn1, hn2, rfl⟩
  case body =>
    rintro l pre x a' W hl hlr ⟨⟨⟨v, bO1, hrow, _⟩, bR1⟩, hB1⟩ ⟨Bs, Bi, hs1, hs2, hs3, hs4, rfl⟩ hlen
    obtain ⟨i0, hi, hz0, hz1, hz2⟩ := info_parts info41
    have hd : 1 ≤ n - 1 - 1 := by omega
    have hcR := bR1.cell
    have hcO := bO1.cell
    have hci0 : W.cell? ⟨Bi, 0, none⟩ = some (.bool x.2.1) := (blk_cell hs4 0).trans rfl
    have hci1 : W.cell? ⟨Bi, 1, none⟩ = some (.bool x.2.2) := (blk_cell hs4 1).trans rfl
    have hcs0 : W.cell? ⟨Bs, 0, none⟩ = some (.int .i64 x.1.f0) := (blk_cell hs3 0).trans rfl
    have hcs1 : W.cell? ⟨Bs, 1, none⟩ = some (.int .i64 x.1.f1) := (blk_cell hs3 1).trans rfl
    have hu80 := Tryz.underlying80
    have hHl : (chz q pre).length ≤ 1000 := by
      have h1 := chz_len q pre
      have h2 := pieces_le a b
      have h3 := HL.out
      omega
    have hsz1 := hB1.size
    gi_wp2
    refine ⟨trivial, ?_⟩
    refine (CallsIn.inRound (F := Fence.wide) l (callsIn_wide.2 (HQ.out x.2.1 x.2.2 W))).mono ?_
    rintro e w' ⟨rfl, rfl⟩
    cases hqq : q x.2.1 x.2.2 with
    | true =>
      have e1 : chz q (pre ++ [x]) = chz q pre ++ [x.1] := by rw [chz_snoc, if_pos hqq]
      have e2 : flatV (chz q pre ++ [x.1]) = flatV (chz q pre) ++ [.int .i64 x.1.f0, .int .i64 x.1.f1] := by simp [flatV]
      have hcw : ∀ j u, [Value.int .i64 x.1.f0, Value.int .i64 x.1.f1][j]? = some u → (w'.alloc (.cells #[.int .i64 x.1.f0, .int .i64 x.1.f1] 41)).cell? ((⟨w'.heap.size, 0, none⟩ : Addr).add j) = some u := by
        intro j u h
        have hh := World.alloc_heap_new w' (.cells #[.int .i64 x.1.f0, .int .i64 x.1.f1] 41)
        match j, h with
        | 0, h => simp at h; subst h; exact (blk_cell hh 0).trans rfl
        | 1, h => simp at h; subst h; exact (blk_cell hh 1).trans rfl
        | j + 2, h => simp at h
      gi_wp2_with (gi_at_builtin; refine wpListIn_append_own _ rfl _ _ 22 rfl w2.heap.size 41 i0 (.agg #[.int .i64 0, .int .i64 0]) 2 16 Tryz.underlying22 hi hz0 hz1 hz2 rfl (by decide) _ _ _ rfl (hrow.alloc _) ⟨w'.heap.size, 0, none⟩ 1 1 [.int .i64 x.1.f0, .int .i64 x.1.f1] rfl rfl hcw (by simp [Value.oneCell']) (by unfold maxLen; omega) (by omega) (by simp; omega) ?_; intro v' w1 hown' hgrow _; obtain ⟨g', cap', rfl⟩ := ownsRow_succ hown'; obtain ⟨p1, p2, p3, p4, p5⟩ := Boxed.appended bO1 (by decide) hrow hsz1 (Nat.le_refl _) hown' hgrow; have hp1 := p1.cell; have hp2 := p1.frozen)
      have hkp := kp_appended (B := w2.heap.size) hrow hgrow p5
      exact ⟨p4.from _, hkp, ⟨⟨⟨_, p2, by rw [e1, e2, List.length_append]; exact p3, trivial⟩, (hkp.2 w.heap.size _ 59 (0, 0) bR1 (by decide) (by omega)).trans bR1⟩, hB1.trans p5⟩⟩
    | false =>
      have e1 : chz q (pre ++ [x]) = chz q pre := by rw [chz_snoc, if_neg (by rw [hqq]; decide)]
      gi_wp2
      exact ⟨(KeepsOthers.refl _).from _, ⟨Below.refl _ _, fun _ _ _ _ _ _ _ => rfl⟩, ⟨⟨⟨v, bO1, by rw [e1]; exact hrow, trivial⟩, bR1⟩, hB1⟩⟩
  case done =>
    rintro D xs W hD rfl ⟨⟨⟨v, bO1, hrow, _⟩, bR1⟩, hB1⟩ hK
    have HRj : Kd.R k41 41 W w2.heap.size (fun _ => True) v (chz q (piecesL a b)) := ⟨fun _ _ => trivial, flatV (chz q (piecesL a b)), hrow, flatV_reps _ _ _ _⟩
    have hHl : (chz q (piecesL a b)).length ≤ 1000 := by
      have h1 := chz_len q (piecesL a b)
      have h2 := pieces_le a b
      have h3 := HL.out
      omega
    have hrr := HRr.out
    have hrl := HRl.out
    generalize chz q (piecesL a b) = ch at HRj hHl hrow hrr
    obtain ⟨A, c, rfl⟩ := Kd.R_slice HRj
    obtain ⟨k3, hk3⟩ := (joined_ev ch (by omega)).rounds
    have HQ2 := Kd.R_reads' HRj
    have hcO := bO1.cell
    rw [hrr] at hk3
    gi_wp2
    refine ⟨trivial, ?_⟩
    refine (callsIn_wide.2 (span_joined.calls k3 A c ch r W HQ2.2.2 HQ2.2.1 hk3)).mono ?_
    rintro e W2 ⟨v2, rfl, hr2, hb2⟩
    obtain ⟨A2, c2, rfl⟩ := Kd.R_slice hr2
    have bO2 : Boxed W2 w2.heap.size 22 (.slice A ch.length c) := (hb2.block _ bO1.lt).trans bO1
    have hcO2 := bO2.cell
    have hfO2 := bO2.frozen
    have bO3 := bO2.set (.slice A2 r.length c2)
    have hcO3 := bO3.cell
    have hlt := (Array.getElem?_eq_some_iff.1 hK).1
    have hK3 : (W2.setCell ⟨w2.heap.size, 0, none⟩ (.slice A2 r.length c2)).heap[D]? = some (.deferred (some [])) := (Below.heap_setCell _ _ _ D (by show D ≠ w2.heap.size; omega)).trans ((hb2.block D hlt).trans hK)
    have HB3 := Aside0.mk (show Below w.heap.size w (W2.setCell ⟨w2.heap.size, 0, none⟩ (.slice A2 r.length c2)) from (below_then HB2.out (by omega) (below_then hB1 hB1.size hb2)).setCell (p := ⟨w2.heap.size, 0, none⟩) (by show w.heap.size ≤ w2.heap.size; omega) _)
    have hWs := bO1.lt
    have HR3 := Aside0.mk (show Kd.R k41 41 (W2.setCell ⟨w2.heap.size, 0, none⟩ (.slice A2 r.length c2)) W.heap.size (fun k => True ∧ W.heap.size ≤ k ∧ k < W2.heap.size ∧ ∃ q, q ∈ 41 :: k41.E ∧ ∃ cells, W2.heap[k]? = some (.cells cells q (0, 0))) (.slice A2 r.length c2) r from Kd.R_far (Kd.R_bound hr2) (fun k hk e => by have h1 := hk.2.1; have h2 : k = w2.heap.size := e; omega) _)
    have hDW : W0.heap.size ≤ D := hD
    have hKD : W2.heap[D]? = some (.deferred (some [])) := (hb2.block D hlt).trans hK
    have hWw : w.heap.size ≤ W.heap.size := by omega
    have HB4 := Aside0.mk (show Below w.heap.size w ((W2.setCell ⟨w2.heap.size, 0, none⟩ (.slice A2 r.length c2)).putObj D (.deferred none)) from HB3.out.grown (grownBy_putObj' _ D _) HB3.out.size (fun k e => by cases e; omega))
    have HR4 := Aside0.mk (show Kd.R k41 41 ((W2.setCell ⟨w2.heap.size, 0, none⟩ (.slice A2 r.length c2)).putObj D (.deferred none)) w.heap.size (fun _ => True) (.slice A2 r.length c2) r from
      Kd.R_lower (Kd.R_mono (Kd.R_grown HR3.out (grownBy_putObj' _ D _) (fun k hk e => by
        cases e
        obtain ⟨_, _, _, q', _, cells, hc⟩ := hk
        rw [hKD] at hc
        cases hc)) (fun _ _ => trivial)) hWw)
    clear hrr hk3 HQ2 hr2 hb2 HRj hrow
    by_cases h128 : r.length > 128
    · have hgt : (128 : Int) < (r.length : Int) := by omega
      rw [if_pos h128] at hrl
      injection hrl with e1 e2
      subst e1 e2
      gi_wp2
      refine ⟨by simp, .inl ⟨_, _, rfl, run_takeDeferred hK3, ?_⟩⟩
      exact ⟨_, results_tmp2 rfl _ _ _, _, rfl, Kd.R_nil _ _ _ _ _, HB4.out⟩
    · have hgt : ¬ (128 : Int) < (r.length : Int) := by omega
      rw [if_neg h128] at hrl
      injection hrl with e1 e2
      subst e1 e2
      gi_wp2
      refine ⟨by simp, .inl ⟨_, _, rfl, run_takeDeferred hK3, ?_⟩⟩
      exact ⟨_, results_tmp2 rfl _ _ _, _, rfl, HR4.out, HB4.out⟩
  case stop =>
    rintro D c pre W _ _ h _
    exact h.elim
theorem chosen_bad (n : Nat) (hn : 4 ≤ n) (g : Nat) (A0 A1 : Option Addr) (c0 c1 : Nat) (a b : List S41) (w : World) (hr0 : Kd.C k41 w A0 a.length a) (hc0 : a.length ≤ c0) (hr1 : Kd.C k41 w A1 b.length b) (hc1 : b.length ≤ c1) (hv : (validS a && validS b) = false) :
    CallsIn Fence.wide n Tryz.prog 31 #[.slice A0 a.length c0, .slice A1 b.length c1, .func (.func g) #[] #[]] w fun e w' => ∃ v0_ : Value, e = .returned (.tuple #[v0_, .int .i64 2]) ∧ Kd.R k41 41 w' w.heap.size (fun _ => True) v0_ [] ∧ Below w.heap.size w w' := by
  have h1 : 1 ≤ n := by omega
  obtain ⟨k1, hk1⟩ := (spanValid_ev a hr0.2.1).rounds
  obtain ⟨k2, hk2⟩ := (spanValid_ev b hr1.2.1).rounds
  have HR0 := Aside0.mk hr0
  have HR1 := Aside0.mk hr1
  have HC0 := Aside0.mk hc0
  have HC1 := Aside0.mk hc1
  have HB0 := Aside0.mk (below_alloc (Below.refl w.heap.size w) (.cells #[.func (.func g) #[] #[]] 59))
  clear hr0 hr1 hc0 hc1
  cases hva : validS a with
  | false =>
    rw [hva] at hk1
    have HV1 := Aside0.mk hk1
    clear hk1 hk2
    refine callsIn_of_wp_marks Tryz.func31 rfl trivial ?_ rfl
    simp only [Tryz.ntmps31, List.size_toArray, List.length_cons, List.length_nil, Nat.reduceAdd, Nat.reduceSub, Array.replicate_succ, Array.replicate_zero, List.push_toArray, List.append_toArray, List.nil_append, List.cons_append]
    gi_wp2_with (refine ⟨trivial, ?_⟩; gi_at_call 22; (with_reducible refine (callsIn_wide.2 (span_Valid.calls k1 _ _ a false _ (Kd.C_below HR0.out HB0.out) HC0.out HV1.out)).mono ?_); rintro e w1 ⟨rfl, hb1⟩)
    gi_wp2
    refine ⟨trivial, ?_⟩
    gi_wp2
    exact ⟨_, results_tmp2 rfl _ _ _, _, rfl, Kd.R_nil _ _ _ _ _, below_then HB0.out HB0.out.size hb1⟩
  | true =>
    have hvb : validS b = false := by rw [hva] at hv; simpa using hv
    rw [hva] at hk1
    rw [hvb] at hk2
    have HV1 := Aside0.mk hk1
    have HV2 := Aside0.mk hk2
    clear hk1 hk2
    refine callsIn_of_wp_marks Tryz.func31 rfl trivial ?_ rfl
    simp only [Tryz.ntmps31, List.size_toArray, List.length_cons, List.length_nil, Nat.reduceAdd, Nat.reduceSub, Array.replicate_succ, Array.replicate_zero, List.push_toArray, List.append_toArray, List.nil_append, List.cons_append]
    gi_wp2_with (refine ⟨trivial, ?_⟩; gi_at_call 22; (with_reducible refine (callsIn_wide.2 (span_Valid.calls k1 _ _ a true _ (Kd.C_below HR0.out HB0.out) HC0.out HV1.out)).mono ?_); rintro e w1 ⟨rfl, hb1⟩)
    have HB1 := Aside0.mk (below_then HB0.out HB0.out.size hb1)
    clear hb1
    gi_wp2_with (refine ⟨trivial, ?_⟩; gi_at_call 22; (with_reducible refine (callsIn_wide.2 (span_Valid.calls k2 _ _ b false _ (Kd.C_below HR1.out HB1.out) HC1.out HV2.out)).mono ?_); rintro e w2 ⟨rfl, hb2⟩)
    gi_wp2
    exact ⟨_, results_tmp2 rfl _ _ _, _, rfl, Kd.R_nil _ _ _ _ _, below_then HB1.out HB1.out.size hb2⟩
theorem chosen_calls (g : Nat) (q : Bool → Bool → Bool) (hq : RuleQ g q) (eg : ∀ args w, (callFunc g args).run Tryz.prog w = .ok (.enter g args) w) (A0 A1 : Option Addr) (c0 c1 : Nat) (a b : List S41) (w : World) (hr0 : Kd.C k41 w A0 a.length a) (hc0 : a.length ≤ c0) (hr1 : Kd.C k41 w A1 b.length b) (hc1 : b.length ≤ c1)
    (rl : List S41) (rc : Int) (h : (if (validS a && validS b) = true then (if (jn (chz q (piecesL a b)) none).length > 128 then (([] : List S41), (8 : Int)) else (jn (chz q (piecesL a b)) none, 0)) else ([], 2)) = (rl, rc)) :
    Calls Tryz.prog 31 #[.slice A0 a.length c0, .slice A1 b.length c1, .func (.func g) #[] #[]] w fun e w' => ∃ v0_ : Value, e = .returned (.tuple #[v0_, .int .i64 rc]) ∧ Kd.R k41 41 w' w.heap.size (fun _ => True) v0_ rl ∧ Below w.heap.size w w' := by
  cases hv : (validS a && validS b) with
  | true =>
    rw [hv, if_pos rfl] at h
    simp only [Bool.and_eq_true] at hv
    exact (callsIn_wide (n := 4)).1 (chosen_in 4 (Nat.le_refl _) g q hq eg A0 A1 c0 c1 a b w hr0 hc0 hr1 hc1 hv.1 hv.2 _ rl rc rfl h)
  | false =>
    rw [hv, if_neg (by decide)] at h
    injection h with e1 e2
    subst e1 e2
    exact (callsIn_wide (n := 4)).1 (chosen_bad 4 (Nat.le_refl _) g A0 A1 c0 c1 a b w hr0 hc0 hr1 hc1 hv)
end Go.Proofs.YtmomcbhgggggnaaGreatDoor.Pr
end
section
namespace Go.Proofs.YtmomcbhgggggnaaGreatDoor.Pr
open Go.RowKit Go.Shelf Go.Proofs.YtmomcbhgggggnaaGreatDoorW.PrintWords Go.Proofs.YtmomcbhgggggnaaGreatDoorW.PrintLast Go.Proofs.YtmomcbhgggggnaaGreatDoorW.PrintMore
set_option linter.unusedVariables false
set_option linter.unusedSimpArgs false
def span_Union.f (l0 l1 : List S41) : Option (List S41 × Int) := some (twoR 0 l0 l1)
def span_Intersect.f (l0 l1 : List S41) : Option (List S41 × Int) := some (twoR 1 l0 l1)
theorem enter32 : ∀ (args : Array Value) (w : World), (callFunc 32 args).run Tryz.prog w = .ok (.enter 32 args) w := enters_of Tryz.func32 (by kernel_rfl) rfl
theorem enter33 : ∀ (args : Array Value) (w : World), (callFunc 33 args).run Tryz.prog w = .ok (.enter 33 args) w := enters_of Tryz.func33 (by kernel_rfl) rfl
theorem two_shape (kind : Int) (a b rl : List S41) (rc : Int) (h : some (twoR kind a b) = some (rl, rc)) : (if (validS a && validS b) = true then (if (jn (chz (keepsB kind) (piecesL a b)) none).length > 128 then (([] : List S41), (8 : Int)) else (jn (chz (keepsB kind) (piecesL a b)) none, 0)) else ([], 2)) = (rl, rc) := by
  injection h with h
  cases hv : (validS a && validS b) with
  | true =>
    rw [if_pos rfl]
    rw [prog_two kind a b hv] at h
    exact h
  | false =>
    rw [if_neg (by decide)]
    unfold twoR at h
    rw [hv, if_neg (by decide)] at h
    exact h
set_option maxHeartbeats 2000000 in
theorem span_Union.calls (A0 : Option Addr) (c0 : Nat) (l0 : List S41) (A1 : Option Addr) (c1 : Nat) (l1 : List S41) (r1 : List S41) (r2 : Int) (w : World) (hr0 : Kd.C k41 w A0 l0.length l0) (hc0 : l0.length ≤ c0) (hr1 : Kd.C k41 w A1 l1.length l1) (hc1 : l1.length ≤ c1) (h : span_Union.f l0 l1 = some (r1, r2)) :
    Calls Tryz.prog 13 #[.slice A0 l0.length c0, .slice A1 l1.length c1] w fun e w' => ∃ v0_ : Value, e = .returned (.tuple #[v0_, .int .i64 r2]) ∧ Kd.R k41 41 w' w.heap.size (fun _ => True) v0_ r1 ∧ Below w.heap.size w w' := by
  have HH := Aside0.mk (two_shape 0 l0 l1 r1 r2 h)
  have HR0 := Aside0.mk hr0
  have HR1 := Aside0.mk hr1
  have HC0 := Aside0.mk hc0
  have HC1 := Aside0.mk hc1
  clear h hr0 hr1 hc0 hc1
  go_enter Tryz.func13, Tryz.ntmps13
  go_wp2_with (go_at_call 31; (with_reducible refine (chosen_calls 32 (keepsB 0) rule32 enter32 A0 A1 c0 c1 l0 l1 w HR0.out HC0.out HR1.out HC1.out r1 r2 HH.out).mono ?_); rintro e w1 ⟨v1, rfl, ho1, hb1⟩; obtain ⟨A3, c3, e3⟩ := Kd.R_slice ho1; subst e3)
  go_ret2
  exact ⟨_, rfl, ho1, hb1⟩
set_option maxHeartbeats 2000000 in
theorem span_Intersect.calls (A0 : Option Addr) (c0 : Nat) (l0 : List S41) (A1 : Option Addr) (c1 : Nat) (l1 : List S41) (r1 : List S41) (r2 : Int) (w : World) (hr0 : Kd.C k41 w A0 l0.length l0) (hc0 : l0.length ≤ c0) (hr1 : Kd.C k41 w A1 l1.length l1) (hc1 : l1.length ≤ c1) (h : span_Intersect.f l0 l1 = some (r1, r2)) :
    Calls Tryz.prog 14 #[.slice A0 l0.length c0, .slice A1 l1.length c1] w fun e w' => ∃ v0_ : Value, e = .returned (.tuple #[v0_, .int .i64 r2]) ∧ Kd.R k41 41 w' w.heap.size (fun _ => True) v0_ r1 ∧ Below w.heap.size w w' := by
  have HH := Aside0.mk (two_shape 1 l0 l1 r1 r2 h)
  have HR0 := Aside0.mk hr0
  have HR1 := Aside0.mk hr1
  have HC0 := Aside0.mk hc0
  have HC1 := Aside0.mk hc1
  clear h hr0 hr1 hc0 hc1
  go_enter Tryz.func14, Tryz.ntmps14
  go_wp2_with (go_at_call 31; (with_reducible refine (chosen_calls 33 (keepsB 1) rule33 enter33 A0 A1 c0 c1 l0 l1 w HR0.out HC0.out HR1.out HC1.out r1 r2 HH.out).mono ?_); rintro e w1 ⟨v1, rfl, ho1, hb1⟩; obtain ⟨A3, c3, e3⟩ := Kd.R_slice ho1; subst e3)
  go_ret2
  exact ⟨_, rfl, ho1, hb1⟩
end Go.Proofs.YtmomcbhgggggnaaGreatDoor.Pr
end
