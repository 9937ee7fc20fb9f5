/- Readers, reckoned: numbers of one, two, four bytes. (Printed by wip/tools/gen.py from wip/sym/XSRd.lean for the seat of chapters 18 and 19.) -/
import Derived.Test.YtbpofglponmpnaaGreatDoorMez
import Derived.Test.YtbpofglponmpnaaGreatDoorCard
import Derived.Test.YtbpofglponmpnaaGreatDoorFx
namespace Go.Proofs.YtbpofglponmpnaaGreatDoor
open Go.RowKit

set_option maxRecDepth 100000 in
theorem ru8_run (xs : List UInt8) (off : Nat) (n : Nat) (t1 : Nat) (t2 : Nat) (x1 : Bool) (z1 : Bool) (x2 : Bool) (z2 : Bool) : outT noneKnown [(280, { op := [(4, 1, .get)], ob := [(2, 2), (4, 1)] }),
   (181, { br := [(16, false)], ob := [(4, 6), (5, 6), (6, 2)] }),
   (286, { ob := [(1, 1)] })] Tryz.prog 286 [AV.ptr (0 : Nat) (0 : Nat) (0 : Nat)] [(0, { t := t1, sz := (2 : Nat), exact := x1, fz := z1, body := Body.rows [[AV.sl (1 : Nat) off n none, AV.val (Value.bool false)]] }), (1, { t := t2, sz := (1 : Nat), exact := x2, fz := z2, body := Body.bytes xs })] 2 =
   some (AV.val (Value.int IntKind.i64 (IntKind.wrap IntKind.i64 (bits BinOp.or IntKind.u32 (0 : Int) (IntKind.wrap IntKind.u32 (↑(UInt8.toNat (List.getD (List.take (1 : Nat) (List.drop off xs)) (0 : Nat) (0 : UInt8))) : Int))))), [(1, { t := t2, sz := (1 : Nat), exact := x2, fz := z2, body := Body.bytes xs }), (0, { t := t1, sz := (2 : Nat), exact := x1, fz := z1, body := Body.rows [[AV.sl (1 : Nat) (off + (1 : Nat)) (n - (1 : Nat)) none, AV.val (Value.bool false)]] })], 63,
   [decide ((1 : Int) > (↑n : Int)) = false,
   (0 : Int) ≤ (0 : Int),
   (0 : Int) ≤ (1 : Int),
   (0 : Int) ≤ (1 : Int),
   (0 : Nat) ≤ (1 : Nat) ∧ (1 : Nat) ≤ (1 : Nat) ∧ off + (1 : Nat) ≤ List.length xs,
   (0 : Int) ≤ (1 : Int),
   (0 : Int) ≤ (↑n : Int),
   (1 : Nat) ≤ n ∧ off + n ≤ List.length xs,
   off + (1 : Nat) ≤ List.length xs,
   (0 : Nat) = (0 : Nat) ∧ (0 : Nat) + (1 : Nat) ≤ (1000000000 : Nat),
   (0 : Nat) < List.length (List.take (1 : Nat) (List.drop off xs))]) := by kernel_rfl

set_option maxRecDepth 100000 in
theorem ru16_run (xs : List UInt8) (off : Nat) (n : Nat) (t1 : Nat) (t2 : Nat) (x1 : Bool) (z1 : Bool) (x2 : Bool) (z2 : Bool) : outT noneKnown [(280, { op := [(4, 1, .get)], ob := [(2, 2), (4, 1)] }),
   (181, { br := [(16, false)], ob := [(4, 6), (5, 6), (6, 2)] }),
   (180, { ob := [(1, 1)] })] Tryz.prog 180 [AV.ptr (0 : Nat) (0 : Nat) (0 : Nat)] [(0, { t := t1, sz := (2 : Nat), exact := x1, fz := z1, body := Body.rows [[AV.sl (1 : Nat) off n none, AV.val (Value.bool false)]] }), (1, { t := t2, sz := (1 : Nat), exact := x2, fz := z2, body := Body.bytes xs })] 2 =
   some (AV.val (Value.int IntKind.i64 (IntKind.wrap IntKind.i64 (bits BinOp.or IntKind.u32 (IntKind.wrap IntKind.u32 (bits BinOp.or IntKind.u32 (0 : Int) (IntKind.wrap IntKind.u32 (↑(UInt8.toNat (List.getD (List.take (2 : Nat) (List.drop off xs)) (0 : Nat) (0 : UInt8))) : Int)) * (256 : Int))) (IntKind.wrap IntKind.u32 (↑(UInt8.toNat (List.getD (List.take (2 : Nat) (List.drop off xs)) (1 : Nat) (0 : UInt8))) : Int))))), [(1, { t := t2, sz := (1 : Nat), exact := x2, fz := z2, body := Body.bytes xs }), (0, { t := t1, sz := (2 : Nat), exact := x1, fz := z1, body := Body.rows [[AV.sl (1 : Nat) (off + (2 : Nat)) (n - (2 : Nat)) none, AV.val (Value.bool false)]] })], 75,
   [decide ((2 : Int) > (↑n : Int)) = false,
   (0 : Int) ≤ (0 : Int),
   (0 : Int) ≤ (2 : Int),
   (0 : Int) ≤ (2 : Int),
   (0 : Nat) ≤ (2 : Nat) ∧ (2 : Nat) ≤ (2 : Nat) ∧ off + (2 : Nat) ≤ List.length xs,
   (0 : Int) ≤ (2 : Int),
   (0 : Int) ≤ (↑n : Int),
   (2 : Nat) ≤ n ∧ off + n ≤ List.length xs,
   off + (2 : Nat) ≤ List.length xs,
   (0 : Nat) = (0 : Nat) ∧ (0 : Nat) + (2 : Nat) ≤ (1000000000 : Nat),
   (0 : Nat) < List.length (List.take (2 : Nat) (List.drop off xs)),
   (1 : Nat) < List.length (List.take (2 : Nat) (List.drop off xs))]) := by kernel_rfl

set_option maxRecDepth 100000 in
theorem ru32_run (xs : List UInt8) (off : Nat) (n : Nat) (t1 : Nat) (t2 : Nat) (x1 : Bool) (z1 : Bool) (x2 : Bool) (z2 : Bool) : outT noneKnown [(280, { op := [(4, 1, .get)], ob := [(2, 2), (4, 1)] }),
   (287, { ob := [(1, 1)] }),
   (181, { br := [(16, false)], ob := [(4, 6), (5, 6), (6, 2)] })] Tryz.prog 287 [AV.ptr (0 : Nat) (0 : Nat) (0 : Nat)] [(0, { t := t1, sz := (2 : Nat), exact := x1, fz := z1, body := Body.rows [[AV.sl (1 : Nat) off n none, AV.val (Value.bool false)]] }), (1, { t := t2, sz := (1 : Nat), exact := x2, fz := z2, body := Body.bytes xs })] 2 =
   some (AV.val (Value.int IntKind.u32 (bits BinOp.or IntKind.u32 (IntKind.wrap IntKind.u32 (bits BinOp.or IntKind.u32 (IntKind.wrap IntKind.u32 (bits BinOp.or IntKind.u32 (IntKind.wrap IntKind.u32 (bits BinOp.or IntKind.u32 (0 : Int) (IntKind.wrap IntKind.u32 (↑(UInt8.toNat (List.getD (List.take (4 : Nat) (List.drop off xs)) (0 : Nat) (0 : UInt8))) : Int)) * (256 : Int))) (IntKind.wrap IntKind.u32 (↑(UInt8.toNat (List.getD (List.take (4 : Nat) (List.drop off xs)) (1 : Nat) (0 : UInt8))) : Int)) * (256 : Int))) (IntKind.wrap IntKind.u32 (↑(UInt8.toNat (List.getD (List.take (4 : Nat) (List.drop off xs)) (2 : Nat) (0 : UInt8))) : Int)) * (256 : Int))) (IntKind.wrap IntKind.u32 (↑(UInt8.toNat (List.getD (List.take (4 : Nat) (List.drop off xs)) (3 : Nat) (0 : UInt8))) : Int)))), [(1, { t := t2, sz := (1 : Nat), exact := x2, fz := z2, body := Body.bytes xs }), (0, { t := t1, sz := (2 : Nat), exact := x1, fz := z1, body := Body.rows [[AV.sl (1 : Nat) (off + (4 : Nat)) (n - (4 : Nat)) none, AV.val (Value.bool false)]] })], 98,
   [decide ((4 : Int) > (↑n : Int)) = false,
   (0 : Int) ≤ (0 : Int),
   (0 : Int) ≤ (4 : Int),
   (0 : Int) ≤ (4 : Int),
   (0 : Nat) ≤ (4 : Nat) ∧ (4 : Nat) ≤ (4 : Nat) ∧ off + (4 : Nat) ≤ List.length xs,
   (0 : Int) ≤ (4 : Int),
   (0 : Int) ≤ (↑n : Int),
   (4 : Nat) ≤ n ∧ off + n ≤ List.length xs,
   off + (4 : Nat) ≤ List.length xs,
   (0 : Nat) = (0 : Nat) ∧ (0 : Nat) + (4 : Nat) ≤ (1000000000 : Nat),
   (0 : Nat) < List.length (List.take (4 : Nat) (List.drop off xs)),
   (1 : Nat) < List.length (List.take (4 : Nat) (List.drop off xs)),
   (2 : Nat) < List.length (List.take (4 : Nat) (List.drop off xs)),
   (3 : Nat) < List.length (List.take (4 : Nat) (List.drop off xs))]) := by kernel_rfl
end Go.Proofs.YtbpofglponmpnaaGreatDoor
