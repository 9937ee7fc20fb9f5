/- Reckoned on each of its ways. (Printed by wip/tools/gen.py from wip/sym/XSPs.lean for the seat of chapters 6 to 9.) -/
import Derived.Test.YtoekncmggjhmjaaPm
namespace Go.Proofs.Ytoekncmggjhmjaa
open Go.RowKit

set_option maxRecDepth 100000 in
theorem ip4Sizes_low (opts : Int) (body : Int) : outT k6s [(21, { op := [(3, 5, .br true)], gd := [(3, 3, true), (3, 4, true)] })] Try.prog 21 [AV.val (Value.int IntKind.i64 opts), AV.val (Value.int IntKind.i64 body)] [] 0 =
   some (AV.val (Value.bool true), [], 18,
   [decide (opts < (0 : Int)) = true,
   decide (opts < (0 : Int)) = true,
   decide (opts < (0 : Int)) = true]) := by kernel_rfl

set_option maxRecDepth 100000 in
theorem ip4Sizes_high (opts : Int) (body : Int) : outT k6s [(21, { op := [(3, 5, .br false), (3, 9, .br true)], gd := [(3, 3, false), (3, 4, false), (3, 7, true), (3, 8, true)] })] Try.prog 21 [AV.val (Value.int IntKind.i64 opts), AV.val (Value.int IntKind.i64 body)] [] 0 =
   some (AV.val (Value.bool true), [], 18,
   [decide (opts < (0 : Int)) = false,
   decide (opts < (0 : Int)) = false,
   decide (opts < (0 : Int)) = false,
   decide (opts > (15 : Int)) = true,
   decide (opts > (15 : Int)) = true,
   decide (opts > (15 : Int)) = true]) := by kernel_rfl

set_option maxRecDepth 100000 in
theorem ip4Sizes_low2 (opts : Int) (body : Int) : outT k6s [(21, { op := [(3, 5, .br false), (3, 9, .br false), (3, 13, .br true)], gd := [(3, 3, false), (3, 4, false), (3, 7, false), (3, 8, false), (3, 11, true), (3, 12, true)] })] Try.prog 21 [AV.val (Value.int IntKind.i64 opts), AV.val (Value.int IntKind.i64 body)] [] 0 =
   some (AV.val (Value.bool true), [], 18,
   [decide (opts < (0 : Int)) = false,
   decide (opts < (0 : Int)) = false,
   decide (opts < (0 : Int)) = false,
   decide (opts > (15 : Int)) = false,
   decide (opts > (15 : Int)) = false,
   decide (opts > (15 : Int)) = false,
   decide (body < (0 : Int)) = true,
   decide (body < (0 : Int)) = true,
   decide (body < (0 : Int)) = true]) := by kernel_rfl

set_option maxRecDepth 100000 in
theorem ip4Sizes_high2 (opts : Int) (body : Int) : outT k6s [(21, { op := [(3, 5, .br false), (3, 9, .br false), (3, 13, .br false)], gd := [(3, 3, false), (3, 4, false), (3, 7, false), (3, 8, false), (3, 11, false), (3, 12, false)], br := [(22, true)] })] Try.prog 21 [AV.val (Value.int IntKind.i64 opts), AV.val (Value.int IntKind.i64 body)] [] 0 =
   some (AV.val (Value.bool true), [], 18,
   [decide (opts < (0 : Int)) = false,
   decide (opts < (0 : Int)) = false,
   decide (opts < (0 : Int)) = false,
   decide (opts > (15 : Int)) = false,
   decide (opts > (15 : Int)) = false,
   decide (opts > (15 : Int)) = false,
   decide (body < (0 : Int)) = false,
   decide (body < (0 : Int)) = false,
   decide (body < (0 : Int)) = false,
   decide (body > (1600 : Int)) = true]) := by kernel_rfl

set_option maxRecDepth 100000 in
theorem ip4Sizes_arg (opts : Int) (body : Int) : outT k6s [(94, { op := [(1, 40, .br false)], gd := [(1, 35, false), (1, 36, false), (1, 37, false), (1, 38, false), (1, 39, false)] }),
   (59, { ob := [(2, 1)] }),
   (21, { op := [(3, 5, .br false), (3, 9, .br false), (3, 13, .br false), (5, 6, .keep)], gd := [(3, 3, false), (3, 4, false), (3, 7, false), (3, 8, false), (3, 11, false), (3, 12, false)], br := [(22, false), (33, true)], ob := [(5, 2), (5, 4), (5, 6)] })] Try.prog 21 [AV.val (Value.int IntKind.i64 opts), AV.val (Value.int IntKind.i64 body)] [] 0 =
   some (AV.val (Value.bool true), [], 152,
   [decide (opts < (0 : Int)) = false,
   decide (opts < (0 : Int)) = false,
   decide (opts < (0 : Int)) = false,
   decide (opts > (15 : Int)) = false,
   decide (opts > (15 : Int)) = false,
   decide (opts > (15 : Int)) = false,
   decide (body < (0 : Int)) = false,
   decide (body < (0 : Int)) = false,
   decide (body < (0 : Int)) = false,
   decide (body > (1600 : Int)) = false,
   (0 : Int) ≤ IntKind.wrap IntKind.i64 ((4 : Int) * opts) ∧ IntKind.wrap IntKind.i64 ((4 : Int) * opts) ≤ (1000000000 : Int) ∧ IntKind.wrap IntKind.i64 ((4 : Int) * opts) = IntKind.wrap IntKind.i64 ((4 : Int) * opts),
   (0 : Int) ≤ body ∧ body ≤ (1000000000 : Int) ∧ body = body,
   decide ((↑(Int.toNat (IntKind.wrap IntKind.i64 ((4 : Int) * opts))) : Int) ≤ (40 : Int)) = false,
   decide ((↑(Int.toNat (IntKind.wrap IntKind.i64 ((4 : Int) * opts))) : Int) ≤ (40 : Int)) = false,
   decide ((↑(Int.toNat (IntKind.wrap IntKind.i64 ((4 : Int) * opts))) : Int) ≤ (40 : Int)) = false,
   decide ((↑(Int.toNat (IntKind.wrap IntKind.i64 ((4 : Int) * opts))) : Int) ≤ (40 : Int)) = false,
   decide ((↑(Int.toNat (IntKind.wrap IntKind.i64 ((4 : Int) * opts))) : Int) ≤ (40 : Int)) = false,
   decide ((↑(Int.toNat (IntKind.wrap IntKind.i64 ((4 : Int) * opts))) : Int) ≤ (40 : Int)) = false,
   SameO (some { t := (5 : Nat), sz := (1 : Nat), exact := true, fz := false, body := Body.bytes (List.replicate (Int.toNat body) (0 : UInt8)) }) { t := (5 : Nat), sz := (1 : Nat), exact := true, fz := false, body := Body.bytes (List.replicate (Int.toNat body) (0 : UInt8)) },
   SameO (some { t := (5 : Nat), sz := (1 : Nat), exact := true, fz := false, body := Body.bytes (List.replicate (Int.toNat (IntKind.wrap IntKind.i64 ((4 : Int) * opts))) (0 : UInt8)) }) { t := (5 : Nat), sz := (1 : Nat), exact := true, fz := false, body := Body.bytes (List.replicate (Int.toNat (IntKind.wrap IntKind.i64 ((4 : Int) * opts))) (0 : UInt8)) },
   decide (opts > (10 : Int)) = true]) := by kernel_rfl

set_option maxRecDepth 100000 in
theorem ip4Sizes_limit (opts : Int) (body : Int) : outT k6s [(94, { op := [(1, 40, .br true)], gd := [(1, 35, true), (1, 36, true), (1, 37, true), (1, 38, true), (1, 39, true)] }),
   (59, { br := [(11, false), (15, true)], ob := [(2, 1)] }),
   (21, { op := [(3, 5, .br false), (3, 9, .br false), (3, 13, .br false), (5, 6, .keep)], gd := [(3, 3, false), (3, 4, false), (3, 7, false), (3, 8, false), (3, 11, false), (3, 12, false)], br := [(22, false), (33, false), (43, true)], ob := [(5, 2), (5, 4), (5, 6)] })] Try.prog 21 [AV.val (Value.int IntKind.i64 opts), AV.val (Value.int IntKind.i64 body)] [] 0 =
   some (AV.val (Value.bool true), [], 166,
   [decide (opts < (0 : Int)) = false,
   decide (opts < (0 : Int)) = false,
   decide (opts < (0 : Int)) = false,
   decide (opts > (15 : Int)) = false,
   decide (opts > (15 : Int)) = false,
   decide (opts > (15 : Int)) = false,
   decide (body < (0 : Int)) = false,
   decide (body < (0 : Int)) = false,
   decide (body < (0 : Int)) = false,
   decide (body > (1600 : Int)) = false,
   (0 : Int) ≤ IntKind.wrap IntKind.i64 ((4 : Int) * opts) ∧ IntKind.wrap IntKind.i64 ((4 : Int) * opts) ≤ (1000000000 : Int) ∧ IntKind.wrap IntKind.i64 ((4 : Int) * opts) = IntKind.wrap IntKind.i64 ((4 : Int) * opts),
   (0 : Int) ≤ body ∧ body ≤ (1000000000 : Int) ∧ body = body,
   decide ((↑(Int.toNat (IntKind.wrap IntKind.i64 ((4 : Int) * opts))) : Int) ≤ (40 : Int)) = true,
   decide ((↑(Int.toNat (IntKind.wrap IntKind.i64 ((4 : Int) * opts))) : Int) ≤ (40 : Int)) = true,
   decide ((↑(Int.toNat (IntKind.wrap IntKind.i64 ((4 : Int) * opts))) : Int) ≤ (40 : Int)) = true,
   decide ((↑(Int.toNat (IntKind.wrap IntKind.i64 ((4 : Int) * opts))) : Int) ≤ (40 : Int)) = true,
   decide ((↑(Int.toNat (IntKind.wrap IntKind.i64 ((4 : Int) * opts))) : Int) ≤ (40 : Int)) = true,
   decide ((↑(Int.toNat (IntKind.wrap IntKind.i64 ((4 : Int) * opts))) : Int) ≤ (40 : Int)) = true,
   (!Int.tmod (↑(Int.toNat (IntKind.wrap IntKind.i64 ((4 : Int) * opts))) : Int) (4 : Int) == (0 : Int)) = false,
   decide ((↑(Int.toNat body) : Int) > IntKind.wrap IntKind.i64 ((1500 : Int) - IntKind.wrap IntKind.i64 ((20 : Int) + (↑(Int.toNat (IntKind.wrap IntKind.i64 ((4 : Int) * opts))) : Int)))) = true,
   SameO (some { t := (5 : Nat), sz := (1 : Nat), exact := true, fz := false, body := Body.bytes (List.replicate (Int.toNat body) (0 : UInt8)) }) { t := (5 : Nat), sz := (1 : Nat), exact := true, fz := false, body := Body.bytes (List.replicate (Int.toNat body) (0 : UInt8)) },
   SameO (some { t := (5 : Nat), sz := (1 : Nat), exact := true, fz := false, body := Body.bytes (List.replicate (Int.toNat (IntKind.wrap IntKind.i64 ((4 : Int) * opts))) (0 : UInt8)) }) { t := (5 : Nat), sz := (1 : Nat), exact := true, fz := false, body := Body.bytes (List.replicate (Int.toNat (IntKind.wrap IntKind.i64 ((4 : Int) * opts))) (0 : UInt8)) },
   decide (opts > (10 : Int)) = false,
   decide (IntKind.wrap IntKind.i64 (IntKind.wrap IntKind.i64 ((20 : Int) + IntKind.wrap IntKind.i64 ((4 : Int) * opts)) + body) > (1500 : Int)) = true]) := by kernel_rfl

set_option maxRecDepth 100000 in
theorem ip4Sizes_ok (opts : Int) (body : Int) : outT k6s [(94, { op := [(1, 40, .br true)], gd := [(1, 35, true), (1, 36, true), (1, 37, true), (1, 38, true), (1, 39, true)] }),
   (59, { br := [(11, false), (15, false)], ob := [(2, 1), (6, 7), (7, 6), (8, 3), (9, 7), (12, 3), (13, 1), (14, 7), (14, 8), (14, 9), (14, 10), (15, 3)] }),
   (21, { op := [(3, 5, .br false), (3, 9, .br false), (3, 13, .br false), (5, 6, .keep)], gd := [(3, 3, false), (3, 4, false), (3, 7, false), (3, 8, false), (3, 11, false), (3, 12, false)], br := [(22, false), (33, false), (43, false)], ob := [(5, 2), (5, 4), (5, 6)] }),
   (84, { ob := [(1, 8)] })] Try.prog 21 [AV.val (Value.int IntKind.i64 opts), AV.val (Value.int IntKind.i64 body)] [] 0 =
   some (AV.val (Value.bool ((↑((20 : Nat) + Int.toNat (IntKind.wrap IntKind.i64 ((4 : Int) * opts)) + Int.toNat body) : Int) == IntKind.wrap IntKind.i64 (IntKind.wrap IntKind.i64 ((20 : Int) + IntKind.wrap IntKind.i64 ((4 : Int) * opts)) + body))), [], 279,
   [decide (opts < (0 : Int)) = false,
   decide (opts < (0 : Int)) = false,
   decide (opts < (0 : Int)) = false,
   decide (opts > (15 : Int)) = false,
   decide (opts > (15 : Int)) = false,
   decide (opts > (15 : Int)) = false,
   decide (body < (0 : Int)) = false,
   decide (body < (0 : Int)) = false,
   decide (body < (0 : Int)) = false,
   decide (body > (1600 : Int)) = false,
   (0 : Int) ≤ IntKind.wrap IntKind.i64 ((4 : Int) * opts) ∧ IntKind.wrap IntKind.i64 ((4 : Int) * opts) ≤ (1000000000 : Int) ∧ IntKind.wrap IntKind.i64 ((4 : Int) * opts) = IntKind.wrap IntKind.i64 ((4 : Int) * opts),
   (0 : Int) ≤ body ∧ body ≤ (1000000000 : Int) ∧ body = body,
   decide ((↑(Int.toNat (IntKind.wrap IntKind.i64 ((4 : Int) * opts))) : Int) ≤ (40 : Int)) = true,
   decide ((↑(Int.toNat (IntKind.wrap IntKind.i64 ((4 : Int) * opts))) : Int) ≤ (40 : Int)) = true,
   decide ((↑(Int.toNat (IntKind.wrap IntKind.i64 ((4 : Int) * opts))) : Int) ≤ (40 : Int)) = true,
   decide ((↑(Int.toNat (IntKind.wrap IntKind.i64 ((4 : Int) * opts))) : Int) ≤ (40 : Int)) = true,
   decide ((↑(Int.toNat (IntKind.wrap IntKind.i64 ((4 : Int) * opts))) : Int) ≤ (40 : Int)) = true,
   decide ((↑(Int.toNat (IntKind.wrap IntKind.i64 ((4 : Int) * opts))) : Int) ≤ (40 : Int)) = true,
   (!Int.tmod (↑(Int.toNat (IntKind.wrap IntKind.i64 ((4 : Int) * opts))) : Int) (4 : Int) == (0 : Int)) = false,
   decide ((↑(Int.toNat body) : Int) > IntKind.wrap IntKind.i64 ((1500 : Int) - IntKind.wrap IntKind.i64 ((20 : Int) + (↑(Int.toNat (IntKind.wrap IntKind.i64 ((4 : Int) * opts))) : Int)))) = false,
   ∀ (x : AV), x ∈ [AV.val (Value.int IntKind.u8 (IntKind.wrap IntKind.u8 (bits BinOp.or IntKind.i64 (64 : Int) (IntKind.wrap IntKind.i64 (Int.tdiv (IntKind.wrap IntKind.i64 ((20 : Int) + (↑(Int.toNat (IntKind.wrap IntKind.i64 ((4 : Int) * opts))) : Int))) (4 : Int)))))), AV.val (Value.int IntKind.u8 (0 : Int))] → isByteAV x,
   ∀ (x : AV), x ∈ [AV.val (Value.int IntKind.u8 (IntKind.wrap IntKind.u8 (Int.fdiv (IntKind.wrap IntKind.i64 (IntKind.wrap IntKind.i64 ((20 : Int) + (↑(Int.toNat (IntKind.wrap IntKind.i64 ((4 : Int) * opts))) : Int)) + (↑(Int.toNat body) : Int))) (256 : Int)))), AV.val (Value.int IntKind.u8 (IntKind.wrap IntKind.u8 (IntKind.wrap IntKind.i64 (IntKind.wrap IntKind.i64 ((20 : Int) + (↑(Int.toNat (IntKind.wrap IntKind.i64 ((4 : Int) * opts))) : Int)) + (↑(Int.toNat body) : Int)))))] → isByteAV x,
   ∀ (x : AV), x ∈ [AV.val (Value.int IntKind.u8 (0 : Int)), AV.val (Value.int IntKind.u8 (0 : Int))] → isByteAV x,
   ∀ (x : AV), x ∈ [AV.val (Value.int IntKind.u8 (0 : Int)), AV.val (Value.int IntKind.u8 (0 : Int))] → isByteAV x,
   (0 : Nat) + Int.toNat (IntKind.wrap IntKind.i64 ((4 : Int) * opts)) ≤ List.length (List.replicate (Int.toNat (IntKind.wrap IntKind.i64 ((4 : Int) * opts))) (0 : UInt8)),
   (20 : Nat) = (20 : Nat) ∧ (20 : Nat) + Int.toNat (IntKind.wrap IntKind.i64 ((4 : Int) * opts)) ≤ (1000000000 : Nat),
   (0 : Nat) + ((20 : Nat) + Int.toNat (IntKind.wrap IntKind.i64 ((4 : Int) * opts))) ≤ List.length (UInt8.ofNat (Int.toNat (IntKind.wrap IntKind.u8 (bits BinOp.or IntKind.i64 (64 : Int) (IntKind.wrap IntKind.i64 (Int.tdiv (IntKind.wrap IntKind.i64 ((20 : Int) + (↑(Int.toNat (IntKind.wrap IntKind.i64 ((4 : Int) * opts))) : Int))) (4 : Int)))))) :: (0 : UInt8) :: UInt8.ofNat (Int.toNat (IntKind.wrap IntKind.u8 (Int.fdiv (IntKind.wrap IntKind.i64 (IntKind.wrap IntKind.i64 ((20 : Int) + (↑(Int.toNat (IntKind.wrap IntKind.i64 ((4 : Int) * opts))) : Int)) + (↑(Int.toNat body) : Int))) (256 : Int)))) :: UInt8.ofNat (Int.toNat (IntKind.wrap IntKind.u8 (IntKind.wrap IntKind.i64 (IntKind.wrap IntKind.i64 ((20 : Int) + (↑(Int.toNat (IntKind.wrap IntKind.i64 ((4 : Int) * opts))) : Int)) + (↑(Int.toNat body) : Int))))) :: (0 : UInt8) :: (0 : UInt8) :: (0 : UInt8) :: (0 : UInt8) :: (0 : UInt8) :: (0 : UInt8) :: (0 : UInt8) :: (0 : UInt8) :: (0 : UInt8) :: (0 : UInt8) :: (0 : UInt8) :: (0 : UInt8) :: (0 : UInt8) :: (0 : UInt8) :: (0 : UInt8) :: (0 : UInt8) :: List.take (Int.toNat (IntKind.wrap IntKind.i64 ((4 : Int) * opts))) (List.replicate (Int.toNat (IntKind.wrap IntKind.i64 ((4 : Int) * opts))) (0 : UInt8))),
   List.length (List.take ((20 : Nat) + Int.toNat (IntKind.wrap IntKind.i64 ((4 : Int) * opts))) (UInt8.ofNat (Int.toNat (IntKind.wrap IntKind.u8 (bits BinOp.or IntKind.i64 (64 : Int) (IntKind.wrap IntKind.i64 (Int.tdiv (IntKind.wrap IntKind.i64 ((20 : Int) + (↑(Int.toNat (IntKind.wrap IntKind.i64 ((4 : Int) * opts))) : Int))) (4 : Int)))))) :: (0 : UInt8) :: UInt8.ofNat (Int.toNat (IntKind.wrap IntKind.u8 (Int.fdiv (IntKind.wrap IntKind.i64 (IntKind.wrap IntKind.i64 ((20 : Int) + (↑(Int.toNat (IntKind.wrap IntKind.i64 ((4 : Int) * opts))) : Int)) + (↑(Int.toNat body) : Int))) (256 : Int)))) :: UInt8.ofNat (Int.toNat (IntKind.wrap IntKind.u8 (IntKind.wrap IntKind.i64 (IntKind.wrap IntKind.i64 ((20 : Int) + (↑(Int.toNat (IntKind.wrap IntKind.i64 ((4 : Int) * opts))) : Int)) + (↑(Int.toNat body) : Int))))) :: (0 : UInt8) :: (0 : UInt8) :: (0 : UInt8) :: (0 : UInt8) :: (0 : UInt8) :: (0 : UInt8) :: (0 : UInt8) :: (0 : UInt8) :: (0 : UInt8) :: (0 : UInt8) :: (0 : UInt8) :: (0 : UInt8) :: (0 : UInt8) :: (0 : UInt8) :: (0 : UInt8) :: (0 : UInt8) :: List.take (Int.toNat (IntKind.wrap IntKind.i64 ((4 : Int) * opts))) (List.replicate (Int.toNat (IntKind.wrap IntKind.i64 ((4 : Int) * opts))) (0 : UInt8)))) ≤ (100000000 : Nat),
   (0 : Int) ≤ (10 : Int) ∧ (10 : Int) < (↑((20 : Nat) + Int.toNat (IntKind.wrap IntKind.i64 ((4 : Int) * opts))) : Int),
   (10 : Nat) < List.length (UInt8.ofNat (Int.toNat (IntKind.wrap IntKind.u8 (bits BinOp.or IntKind.i64 (64 : Int) (IntKind.wrap IntKind.i64 (Int.tdiv (IntKind.wrap IntKind.i64 ((20 : Int) + (↑(Int.toNat (IntKind.wrap IntKind.i64 ((4 : Int) * opts))) : Int))) (4 : Int)))))) :: (0 : UInt8) :: UInt8.ofNat (Int.toNat (IntKind.wrap IntKind.u8 (Int.fdiv (IntKind.wrap IntKind.i64 (IntKind.wrap IntKind.i64 ((20 : Int) + (↑(Int.toNat (IntKind.wrap IntKind.i64 ((4 : Int) * opts))) : Int)) + (↑(Int.toNat body) : Int))) (256 : Int)))) :: UInt8.ofNat (Int.toNat (IntKind.wrap IntKind.u8 (IntKind.wrap IntKind.i64 (IntKind.wrap IntKind.i64 ((20 : Int) + (↑(Int.toNat (IntKind.wrap IntKind.i64 ((4 : Int) * opts))) : Int)) + (↑(Int.toNat body) : Int))))) :: (0 : UInt8) :: (0 : UInt8) :: (0 : UInt8) :: (0 : UInt8) :: (0 : UInt8) :: (0 : UInt8) :: (0 : UInt8) :: (0 : UInt8) :: (0 : UInt8) :: (0 : UInt8) :: (0 : UInt8) :: (0 : UInt8) :: (0 : UInt8) :: (0 : UInt8) :: (0 : UInt8) :: (0 : UInt8) :: List.take (Int.toNat (IntKind.wrap IntKind.i64 ((4 : Int) * opts))) (List.replicate (Int.toNat (IntKind.wrap IntKind.i64 ((4 : Int) * opts))) (0 : UInt8))),
   isByteAV (AV.val (Value.int IntKind.u8 (IntKind.wrap IntKind.u8 (Int.fdiv (↑(ofL (List.take ((20 : Nat) + Int.toNat (IntKind.wrap IntKind.i64 ((4 : Int) * opts))) (UInt8.ofNat (Int.toNat (IntKind.wrap IntKind.u8 (bits BinOp.or IntKind.i64 (64 : Int) (IntKind.wrap IntKind.i64 (Int.tdiv (IntKind.wrap IntKind.i64 ((20 : Int) + (↑(Int.toNat (IntKind.wrap IntKind.i64 ((4 : Int) * opts))) : Int))) (4 : Int)))))) :: (0 : UInt8) :: UInt8.ofNat (Int.toNat (IntKind.wrap IntKind.u8 (Int.fdiv (IntKind.wrap IntKind.i64 (IntKind.wrap IntKind.i64 ((20 : Int) + (↑(Int.toNat (IntKind.wrap IntKind.i64 ((4 : Int) * opts))) : Int)) + (↑(Int.toNat body) : Int))) (256 : Int)))) :: UInt8.ofNat (Int.toNat (IntKind.wrap IntKind.u8 (IntKind.wrap IntKind.i64 (IntKind.wrap IntKind.i64 ((20 : Int) + (↑(Int.toNat (IntKind.wrap IntKind.i64 ((4 : Int) * opts))) : Int)) + (↑(Int.toNat body) : Int))))) :: (0 : UInt8) :: (0 : UInt8) :: (0 : UInt8) :: (0 : UInt8) :: (0 : UInt8) :: (0 : UInt8) :: (0 : UInt8) :: (0 : UInt8) :: (0 : UInt8) :: (0 : UInt8) :: (0 : UInt8) :: (0 : UInt8) :: (0 : UInt8) :: (0 : UInt8) :: (0 : UInt8) :: (0 : UInt8) :: List.take (Int.toNat (IntKind.wrap IntKind.i64 ((4 : Int) * opts))) (List.replicate (Int.toNat (IntKind.wrap IntKind.i64 ((4 : Int) * opts))) (0 : UInt8))))) : Int) (256 : Int))))),
   (0 : Int) ≤ (11 : Int) ∧ (11 : Int) < (↑((20 : Nat) + Int.toNat (IntKind.wrap IntKind.i64 ((4 : Int) * opts))) : Int),
   (11 : Nat) < List.length (UInt8.ofNat (Int.toNat (IntKind.wrap IntKind.u8 (bits BinOp.or IntKind.i64 (64 : Int) (IntKind.wrap IntKind.i64 (Int.tdiv (IntKind.wrap IntKind.i64 ((20 : Int) + (↑(Int.toNat (IntKind.wrap IntKind.i64 ((4 : Int) * opts))) : Int))) (4 : Int)))))) :: (0 : UInt8) :: UInt8.ofNat (Int.toNat (IntKind.wrap IntKind.u8 (Int.fdiv (IntKind.wrap IntKind.i64 (IntKind.wrap IntKind.i64 ((20 : Int) + (↑(Int.toNat (IntKind.wrap IntKind.i64 ((4 : Int) * opts))) : Int)) + (↑(Int.toNat body) : Int))) (256 : Int)))) :: UInt8.ofNat (Int.toNat (IntKind.wrap IntKind.u8 (IntKind.wrap IntKind.i64 (IntKind.wrap IntKind.i64 ((20 : Int) + (↑(Int.toNat (IntKind.wrap IntKind.i64 ((4 : Int) * opts))) : Int)) + (↑(Int.toNat body) : Int))))) :: (0 : UInt8) :: (0 : UInt8) :: (0 : UInt8) :: (0 : UInt8) :: (0 : UInt8) :: (0 : UInt8) :: UInt8.ofNat (Int.toNat (IntKind.wrap IntKind.u8 (Int.fdiv (↑(ofL (List.take ((20 : Nat) + Int.toNat (IntKind.wrap IntKind.i64 ((4 : Int) * opts))) (UInt8.ofNat (Int.toNat (IntKind.wrap IntKind.u8 (bits BinOp.or IntKind.i64 (64 : Int) (IntKind.wrap IntKind.i64 (Int.tdiv (IntKind.wrap IntKind.i64 ((20 : Int) + (↑(Int.toNat (IntKind.wrap IntKind.i64 ((4 : Int) * opts))) : Int))) (4 : Int)))))) :: (0 : UInt8) :: UInt8.ofNat (Int.toNat (IntKind.wrap IntKind.u8 (Int.fdiv (IntKind.wrap IntKind.i64 (IntKind.wrap IntKind.i64 ((20 : Int) + (↑(Int.toNat (IntKind.wrap IntKind.i64 ((4 : Int) * opts))) : Int)) + (↑(Int.toNat body) : Int))) (256 : Int)))) :: UInt8.ofNat (Int.toNat (IntKind.wrap IntKind.u8 (IntKind.wrap IntKind.i64 (IntKind.wrap IntKind.i64 ((20 : Int) + (↑(Int.toNat (IntKind.wrap IntKind.i64 ((4 : Int) * opts))) : Int)) + (↑(Int.toNat body) : Int))))) :: (0 : UInt8) :: (0 : UInt8) :: (0 : UInt8) :: (0 : UInt8) :: (0 : UInt8) :: (0 : UInt8) :: (0 : UInt8) :: (0 : UInt8) :: (0 : UInt8) :: (0 : UInt8) :: (0 : UInt8) :: (0 : UInt8) :: (0 : UInt8) :: (0 : UInt8) :: (0 : UInt8) :: (0 : UInt8) :: List.take (Int.toNat (IntKind.wrap IntKind.i64 ((4 : Int) * opts))) (List.replicate (Int.toNat (IntKind.wrap IntKind.i64 ((4 : Int) * opts))) (0 : UInt8))))) : Int) (256 : Int)))) :: (0 : UInt8) :: (0 : UInt8) :: (0 : UInt8) :: (0 : UInt8) :: (0 : UInt8) :: (0 : UInt8) :: (0 : UInt8) :: (0 : UInt8) :: (0 : UInt8) :: List.take (Int.toNat (IntKind.wrap IntKind.i64 ((4 : Int) * opts))) (List.replicate (Int.toNat (IntKind.wrap IntKind.i64 ((4 : Int) * opts))) (0 : UInt8))),
   isByteAV (AV.val (Value.int IntKind.u8 (IntKind.wrap IntKind.u8 (↑(ofL (List.take ((20 : Nat) + Int.toNat (IntKind.wrap IntKind.i64 ((4 : Int) * opts))) (UInt8.ofNat (Int.toNat (IntKind.wrap IntKind.u8 (bits BinOp.or IntKind.i64 (64 : Int) (IntKind.wrap IntKind.i64 (Int.tdiv (IntKind.wrap IntKind.i64 ((20 : Int) + (↑(Int.toNat (IntKind.wrap IntKind.i64 ((4 : Int) * opts))) : Int))) (4 : Int)))))) :: (0 : UInt8) :: UInt8.ofNat (Int.toNat (IntKind.wrap IntKind.u8 (Int.fdiv (IntKind.wrap IntKind.i64 (IntKind.wrap IntKind.i64 ((20 : Int) + (↑(Int.toNat (IntKind.wrap IntKind.i64 ((4 : Int) * opts))) : Int)) + (↑(Int.toNat body) : Int))) (256 : Int)))) :: UInt8.ofNat (Int.toNat (IntKind.wrap IntKind.u8 (IntKind.wrap IntKind.i64 (IntKind.wrap IntKind.i64 ((20 : Int) + (↑(Int.toNat (IntKind.wrap IntKind.i64 ((4 : Int) * opts))) : Int)) + (↑(Int.toNat body) : Int))))) :: (0 : UInt8) :: (0 : UInt8) :: (0 : UInt8) :: (0 : UInt8) :: (0 : UInt8) :: (0 : UInt8) :: (0 : UInt8) :: (0 : UInt8) :: (0 : UInt8) :: (0 : UInt8) :: (0 : UInt8) :: (0 : UInt8) :: (0 : UInt8) :: (0 : UInt8) :: (0 : UInt8) :: (0 : UInt8) :: List.take (Int.toNat (IntKind.wrap IntKind.i64 ((4 : Int) * opts))) (List.replicate (Int.toNat (IntKind.wrap IntKind.i64 ((4 : Int) * opts))) (0 : UInt8))))) : Int)))),
   (0 : Nat) + Int.toNat body ≤ List.length (List.replicate (Int.toNat body) (0 : UInt8)),
   List.length (UInt8.ofNat (Int.toNat (IntKind.wrap IntKind.u8 (bits BinOp.or IntKind.i64 (64 : Int) (IntKind.wrap IntKind.i64 (Int.tdiv (IntKind.wrap IntKind.i64 ((20 : Int) + (↑(Int.toNat (IntKind.wrap IntKind.i64 ((4 : Int) * opts))) : Int))) (4 : Int)))))) :: (0 : UInt8) :: UInt8.ofNat (Int.toNat (IntKind.wrap IntKind.u8 (Int.fdiv (IntKind.wrap IntKind.i64 (IntKind.wrap IntKind.i64 ((20 : Int) + (↑(Int.toNat (IntKind.wrap IntKind.i64 ((4 : Int) * opts))) : Int)) + (↑(Int.toNat body) : Int))) (256 : Int)))) :: UInt8.ofNat (Int.toNat (IntKind.wrap IntKind.u8 (IntKind.wrap IntKind.i64 (IntKind.wrap IntKind.i64 ((20 : Int) + (↑(Int.toNat (IntKind.wrap IntKind.i64 ((4 : Int) * opts))) : Int)) + (↑(Int.toNat body) : Int))))) :: (0 : UInt8) :: (0 : UInt8) :: (0 : UInt8) :: (0 : UInt8) :: (0 : UInt8) :: (0 : UInt8) :: UInt8.ofNat (Int.toNat (IntKind.wrap IntKind.u8 (Int.fdiv (↑(ofL (List.take ((20 : Nat) + Int.toNat (IntKind.wrap IntKind.i64 ((4 : Int) * opts))) (UInt8.ofNat (Int.toNat (IntKind.wrap IntKind.u8 (bits BinOp.or IntKind.i64 (64 : Int) (IntKind.wrap IntKind.i64 (Int.tdiv (IntKind.wrap IntKind.i64 ((20 : Int) + (↑(Int.toNat (IntKind.wrap IntKind.i64 ((4 : Int) * opts))) : Int))) (4 : Int)))))) :: (0 : UInt8) :: UInt8.ofNat (Int.toNat (IntKind.wrap IntKind.u8 (Int.fdiv (IntKind.wrap IntKind.i64 (IntKind.wrap IntKind.i64 ((20 : Int) + (↑(Int.toNat (IntKind.wrap IntKind.i64 ((4 : Int) * opts))) : Int)) + (↑(Int.toNat body) : Int))) (256 : Int)))) :: UInt8.ofNat (Int.toNat (IntKind.wrap IntKind.u8 (IntKind.wrap IntKind.i64 (IntKind.wrap IntKind.i64 ((20 : Int) + (↑(Int.toNat (IntKind.wrap IntKind.i64 ((4 : Int) * opts))) : Int)) + (↑(Int.toNat body) : Int))))) :: (0 : UInt8) :: (0 : UInt8) :: (0 : UInt8) :: (0 : UInt8) :: (0 : UInt8) :: (0 : UInt8) :: (0 : UInt8) :: (0 : UInt8) :: (0 : UInt8) :: (0 : UInt8) :: (0 : UInt8) :: (0 : UInt8) :: (0 : UInt8) :: (0 : UInt8) :: (0 : UInt8) :: (0 : UInt8) :: List.take (Int.toNat (IntKind.wrap IntKind.i64 ((4 : Int) * opts))) (List.replicate (Int.toNat (IntKind.wrap IntKind.i64 ((4 : Int) * opts))) (0 : UInt8))))) : Int) (256 : Int)))) :: UInt8.ofNat (Int.toNat (IntKind.wrap IntKind.u8 (↑(ofL (List.take ((20 : Nat) + Int.toNat (IntKind.wrap IntKind.i64 ((4 : Int) * opts))) (UInt8.ofNat (Int.toNat (IntKind.wrap IntKind.u8 (bits BinOp.or IntKind.i64 (64 : Int) (IntKind.wrap IntKind.i64 (Int.tdiv (IntKind.wrap IntKind.i64 ((20 : Int) + (↑(Int.toNat (IntKind.wrap IntKind.i64 ((4 : Int) * opts))) : Int))) (4 : Int)))))) :: (0 : UInt8) :: UInt8.ofNat (Int.toNat (IntKind.wrap IntKind.u8 (Int.fdiv (IntKind.wrap IntKind.i64 (IntKind.wrap IntKind.i64 ((20 : Int) + (↑(Int.toNat (IntKind.wrap IntKind.i64 ((4 : Int) * opts))) : Int)) + (↑(Int.toNat body) : Int))) (256 : Int)))) :: UInt8.ofNat (Int.toNat (IntKind.wrap IntKind.u8 (IntKind.wrap IntKind.i64 (IntKind.wrap IntKind.i64 ((20 : Int) + (↑(Int.toNat (IntKind.wrap IntKind.i64 ((4 : Int) * opts))) : Int)) + (↑(Int.toNat body) : Int))))) :: (0 : UInt8) :: (0 : UInt8) :: (0 : UInt8) :: (0 : UInt8) :: (0 : UInt8) :: (0 : UInt8) :: (0 : UInt8) :: (0 : UInt8) :: (0 : UInt8) :: (0 : UInt8) :: (0 : UInt8) :: (0 : UInt8) :: (0 : UInt8) :: (0 : UInt8) :: (0 : UInt8) :: (0 : UInt8) :: List.take (Int.toNat (IntKind.wrap IntKind.i64 ((4 : Int) * opts))) (List.replicate (Int.toNat (IntKind.wrap IntKind.i64 ((4 : Int) * opts))) (0 : UInt8))))) : Int))) :: (0 : UInt8) :: (0 : UInt8) :: (0 : UInt8) :: (0 : UInt8) :: (0 : UInt8) :: (0 : UInt8) :: (0 : UInt8) :: (0 : UInt8) :: List.take (Int.toNat (IntKind.wrap IntKind.i64 ((4 : Int) * opts))) (List.replicate (Int.toNat (IntKind.wrap IntKind.i64 ((4 : Int) * opts))) (0 : UInt8))) = (20 : Nat) + Int.toNat (IntKind.wrap IntKind.i64 ((4 : Int) * opts)) ∧ (20 : Nat) + Int.toNat (IntKind.wrap IntKind.i64 ((4 : Int) * opts)) + Int.toNat body ≤ (1000000000 : Nat),
   SameO (some { t := (5 : Nat), sz := (1 : Nat), exact := true, fz := false, body := Body.bytes (List.replicate (Int.toNat body) (0 : UInt8)) }) { t := (5 : Nat), sz := (1 : Nat), exact := true, fz := false, body := Body.bytes (List.replicate (Int.toNat body) (0 : UInt8)) },
   SameO (some { t := (5 : Nat), sz := (1 : Nat), exact := true, fz := false, body := Body.bytes (List.replicate (Int.toNat (IntKind.wrap IntKind.i64 ((4 : Int) * opts))) (0 : UInt8)) }) { t := (5 : Nat), sz := (1 : Nat), exact := true, fz := false, body := Body.bytes (List.replicate (Int.toNat (IntKind.wrap IntKind.i64 ((4 : Int) * opts))) (0 : UInt8)) },
   decide (opts > (10 : Int)) = false,
   decide (IntKind.wrap IntKind.i64 (IntKind.wrap IntKind.i64 ((20 : Int) + IntKind.wrap IntKind.i64 ((4 : Int) * opts)) + body) > (1500 : Int)) = false]) := by kernel_rfl
end Go.Proofs.Ytoekncmggjhmjaa
