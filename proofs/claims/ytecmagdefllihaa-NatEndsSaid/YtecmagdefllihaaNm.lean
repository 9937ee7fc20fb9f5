/- Several texts in one: NeRun, NfRun, NeRnd. -/
import Derived.Test.YtecmagdefllihaaNem

/- The law NatEnds, reckoned on each of its ways. (Printed by wip/tools/gen.py from wip/sym/XSNe.lean.) -/
namespace Go.Proofs.Ytecmagdefllihaa
open Go.RowKit

set_option maxRecDepth 100000 in
theorem ends_a0 (a : Int) (b : Int) (port : Int) (n : Nat) (x : Nat → Int) : outT kU [(10, { op := [(3, 5, .br true)], gd := [(3, 3, true), (3, 4, true)] })] Try.prog 10 [AV.val (Value.int IntKind.i64 a), AV.val (Value.int IntKind.i64 b), AV.val (Value.int IntKind.i64 port), AV.view 1 n fun k => [AV.val (Value.int IntKind.i64 (x k))]] [] 0 =
   some (AV.val (Value.bool true), [], 36,
   rp 3 (decide (a < (0 : Int)) = true) ( [])) := by kernel_rfl

set_option maxRecDepth 100000 in
theorem ends_b0 (a : Int) (b : Int) (port : Int) (n : Nat) (x : Nat → Int) : outT kU [(10, { op := [(3, 5, .br false), (3, 9, .br true)], gd := [(3, 3, false), (3, 4, false), (3, 7, true), (3, 8, true)] })] Try.prog 10 [AV.val (Value.int IntKind.i64 a), AV.val (Value.int IntKind.i64 b), AV.val (Value.int IntKind.i64 port), AV.view 1 n fun k => [AV.val (Value.int IntKind.i64 (x k))]] [] 0 =
   some (AV.val (Value.bool true), [], 36,
   rp 3 (decide (a < (0 : Int)) = false) (
   rp 3 (decide (b < (0 : Int)) = true) ( []))) := by kernel_rfl

set_option maxRecDepth 100000 in
theorem ends_a1 (a : Int) (b : Int) (port : Int) (n : Nat) (x : Nat → Int) : outT kU [(10, { op := [(3, 5, .br false), (3, 9, .br false), (3, 13, .br true)], gd := [(3, 3, false), (3, 4, false), (3, 7, false), (3, 8, false), (3, 11, true), (3, 12, true)] })] Try.prog 10 [AV.val (Value.int IntKind.i64 a), AV.val (Value.int IntKind.i64 b), AV.val (Value.int IntKind.i64 port), AV.view 1 n fun k => [AV.val (Value.int IntKind.i64 (x k))]] [] 0 =
   some (AV.val (Value.bool true), [], 36,
   rp 3 (decide (a < (0 : Int)) = false) (
   rp 3 (decide (b < (0 : Int)) = false) (
   rp 3 (decide (a > (255 : Int)) = true) ( [])))) := by kernel_rfl

set_option maxRecDepth 100000 in
theorem ends_b1 (a : Int) (b : Int) (port : Int) (n : Nat) (x : Nat → Int) : outT kU [(10, { op := [(3, 5, .br false), (3, 9, .br false), (3, 13, .br false), (3, 18, .br true)], gd := [(3, 3, false), (3, 4, false), (3, 7, false), (3, 8, false), (3, 11, false), (3, 12, false), (3, 15, true), (3, 16, true), (3, 17, true)] })] Try.prog 10 [AV.val (Value.int IntKind.i64 a), AV.val (Value.int IntKind.i64 b), AV.val (Value.int IntKind.i64 port), AV.view 1 n fun k => [AV.val (Value.int IntKind.i64 (x k))]] [] 0 =
   some (AV.val (Value.bool true), [], 36,
   rp 3 (decide (a < (0 : Int)) = false) (
   rp 3 (decide (b < (0 : Int)) = false) (
   rp 3 (decide (a > (255 : Int)) = false) (
   rp 4 (decide (b > (255 : Int)) = true) ( []))))) := by kernel_rfl

set_option maxRecDepth 100000 in
theorem ends_ab (a : Int) (b : Int) (port : Int) (n : Nat) (x : Nat → Int) : outT kU [(10, { op := [(3, 5, .br false), (3, 9, .br false), (3, 13, .br false), (3, 18, .br false), (3, 22, .br true)], gd := [(3, 3, false), (3, 4, false), (3, 7, false), (3, 8, false), (3, 11, false), (3, 12, false), (3, 15, false), (3, 16, false), (3, 17, false), (3, 20, true), (3, 21, true)] })] Try.prog 10 [AV.val (Value.int IntKind.i64 a), AV.val (Value.int IntKind.i64 b), AV.val (Value.int IntKind.i64 port), AV.view 1 n fun k => [AV.val (Value.int IntKind.i64 (x k))]] [] 0 =
   some (AV.val (Value.bool true), [], 36,
   rp 3 (decide (a < (0 : Int)) = false) (
   rp 3 (decide (b < (0 : Int)) = false) (
   rp 3 (decide (a > (255 : Int)) = false) (
   rp 4 (decide (b > (255 : Int)) = false) (
   rp 3 ((a == b) = true) ( [])))))) := by kernel_rfl

set_option maxRecDepth 100000 in
theorem ends_p0 (a : Int) (b : Int) (port : Int) (n : Nat) (x : Nat → Int) : outT kU [(10, { op := [(3, 5, .br false), (3, 9, .br false), (3, 13, .br false), (3, 18, .br false), (3, 22, .br false), (3, 26, .br true)], gd := [(3, 3, false), (3, 4, false), (3, 7, false), (3, 8, false), (3, 11, false), (3, 12, false), (3, 15, false), (3, 16, false), (3, 17, false), (3, 20, false), (3, 21, false), (3, 24, true), (3, 25, true)] })] Try.prog 10 [AV.val (Value.int IntKind.i64 a), AV.val (Value.int IntKind.i64 b), AV.val (Value.int IntKind.i64 port), AV.view 1 n fun k => [AV.val (Value.int IntKind.i64 (x k))]] [] 0 =
   some (AV.val (Value.bool true), [], 36,
   rp 3 (decide (a < (0 : Int)) = false) (
   rp 3 (decide (b < (0 : Int)) = false) (
   rp 3 (decide (a > (255 : Int)) = false) (
   rp 4 (decide (b > (255 : Int)) = false) (
   rp 3 ((a == b) = false) (
   rp 3 (decide (port < (1 : Int)) = true) ( []))))))) := by kernel_rfl

set_option maxRecDepth 100000 in
theorem ends_p1 (a : Int) (b : Int) (port : Int) (n : Nat) (x : Nat → Int) : outT kU [(10, { op := [(3, 5, .br false), (3, 9, .br false), (3, 13, .br false), (3, 18, .br false), (3, 22, .br false), (3, 26, .br false), (3, 31, .br true)], gd := [(3, 3, false), (3, 4, false), (3, 7, false), (3, 8, false), (3, 11, false), (3, 12, false), (3, 15, false), (3, 16, false), (3, 17, false), (3, 20, false), (3, 21, false), (3, 24, false), (3, 25, false), (3, 28, true), (3, 29, true), (3, 30, true)] })] Try.prog 10 [AV.val (Value.int IntKind.i64 a), AV.val (Value.int IntKind.i64 b), AV.val (Value.int IntKind.i64 port), AV.view 1 n fun k => [AV.val (Value.int IntKind.i64 (x k))]] [] 0 =
   some (AV.val (Value.bool true), [], 36,
   rp 3 (decide (a < (0 : Int)) = false) (
   rp 3 (decide (b < (0 : Int)) = false) (
   rp 3 (decide (a > (255 : Int)) = false) (
   rp 4 (decide (b > (255 : Int)) = false) (
   rp 3 ((a == b) = false) (
   rp 3 (decide (port < (1 : Int)) = false) (
   rp 4 (decide (port > (65535 : Int)) = true) ( [])))))))) := by kernel_rfl

set_option maxRecDepth 100000 in
theorem ends_n (a : Int) (b : Int) (port : Int) (n : Nat) (x : Nat → Int) : outT kU [(10, { op := [(3, 5, .br false), (3, 9, .br false), (3, 13, .br false), (3, 18, .br false), (3, 22, .br false), (3, 26, .br false), (3, 31, .br false)], gd := [(3, 3, false), (3, 4, false), (3, 7, false), (3, 8, false), (3, 11, false), (3, 12, false), (3, 15, false), (3, 16, false), (3, 17, false), (3, 20, false), (3, 21, false), (3, 24, false), (3, 25, false), (3, 28, false), (3, 29, false), (3, 30, false)], br := [(56, true)] })] Try.prog 10 [AV.val (Value.int IntKind.i64 a), AV.val (Value.int IntKind.i64 b), AV.val (Value.int IntKind.i64 port), AV.view 1 n fun k => [AV.val (Value.int IntKind.i64 (x k))]] [] 0 =
   some (AV.val (Value.bool true), [], 36,
   rp 3 (decide (a < (0 : Int)) = false) (
   rp 3 (decide (b < (0 : Int)) = false) (
   rp 3 (decide (a > (255 : Int)) = false) (
   rp 4 (decide (b > (255 : Int)) = false) (
   rp 3 ((a == b) = false) (
   rp 3 (decide (port < (1 : Int)) = false) (
   rp 4 (decide (port > (65535 : Int)) = false) (
   (decide ((↑n : Int) > (40 : Int)) = true) :: [])))))))) := by kernel_rfl

set_option maxRecDepth 100000 in
theorem ends_top0 (a : Int) (b : Int) (port : Int) (n : Nat) (x : Nat → Int) : outXS kU [(10, { op := [(3, 5, .br false), (3, 9, .br false), (3, 13, .br false), (3, 18, .br false), (3, 22, .br false), (3, 26, .br false), (3, 31, .br false), (18, 7, .br true)], gd := [(3, 3, false), (3, 4, false), (3, 7, false), (3, 8, false), (3, 11, false), (3, 12, false), (3, 15, false), (3, 16, false), (3, 17, false), (3, 20, false), (3, 21, false), (3, 24, false), (3, 25, false), (3, 28, false), (3, 29, false), (3, 30, false), (18, 4, true), (18, 5, true), (18, 6, true)], br := [(56, false)] })] Try.prog 10 [AV.val (Value.int IntKind.i64 a), AV.val (Value.int IntKind.i64 b), AV.val (Value.int IntKind.i64 port), AV.view 1 n fun k => [AV.val (Value.int IntKind.i64 (x k))]] [] 0 [] [(8, ndL0 a b port n x)] =
   some (AV.val (Value.bool true), [], 12,
   rp 3 (decide (a < (0 : Int)) = false) (
   rp 3 (decide (b < (0 : Int)) = false) (
   rp 3 (decide (a > (255 : Int)) = false) (
   rp 4 (decide (b > (255 : Int)) = false) (
   rp 3 ((a == b) = false) (
   rp 3 (decide (port < (1 : Int)) = false) (
   rp 4 (decide (port > (65535 : Int)) = false) (
   (decide ((↑n : Int) > (40 : Int)) = false) ::
   (AV.val (Value.int IntKind.i64 a) = AV.val (Value.int IntKind.i64 a)) ::
   (AV.val (Value.int IntKind.i64 b) = AV.val (Value.int IntKind.i64 b)) ::
   (AV.val (Value.int IntKind.i64 port) = AV.val (Value.int IntKind.i64 port)) ::
   ((AV.view 1 n fun k => [AV.val (Value.int IntKind.i64 (x k))]) = AV.view 1 n fun i => [AV.val (Value.int IntKind.i64 (x i))]) ::
   rp 2 (AV.val (Value.int IntKind.i64 (-1 : Int)) = AV.val (Value.int IntKind.i64 (-1 : Int))) (
   (AV.val (Value.int IntKind.i64 (0 : Int)) = AV.val (Value.int IntKind.i64 (0 : Int))) ::
   (EvXL Try.prog 0 (loopAt Try.prog 10 8) (GoalX.st (LoopX.G (ndL0 a b port n x)) 0) (LoopX.ex (ndL0 a b port n x)) (GoalX.st (LoopX.E (ndL0 a b port n x)) 0)) ::
   rp 4 (((↑n : Int) == (0 : Int)) = true) ( [])))))))))) := by kernel_rfl

set_option maxRecDepth 100000 in
theorem ends_top1 (a : Int) (b : Int) (port : Int) (n : Nat) (x : Nat → Int) (c : Int) (d : Int) : outXS kU [(10, { op := [(3, 5, .br false), (3, 9, .br false), (3, 13, .br false), (3, 18, .br false), (3, 22, .br false), (3, 26, .br false), (3, 31, .br false), (18, 7, .br false)], gd := [(3, 3, false), (3, 4, false), (3, 7, false), (3, 8, false), (3, 11, false), (3, 12, false), (3, 15, false), (3, 16, false), (3, 17, false), (3, 20, false), (3, 21, false), (3, 24, false), (3, 25, false), (3, 28, false), (3, 29, false), (3, 30, false), (18, 4, false), (18, 5, false), (18, 6, false)], br := [(56, false)], ob := [(18, 5)] }),
   (33, { ob := [(1, 3), (1, 4)] })] Try.prog 10 [AV.val (Value.int IntKind.i64 a), AV.val (Value.int IntKind.i64 b), AV.val (Value.int IntKind.i64 port), AV.view 1 n fun k => [AV.val (Value.int IntKind.i64 (x k))]] [] 0 [] [(8, ndL1 a b port n x c d)] =
   some (AV.val (Value.bool true), [], 109,
   rp 3 (decide (a < (0 : Int)) = false) (
   rp 3 (decide (b < (0 : Int)) = false) (
   rp 3 (decide (a > (255 : Int)) = false) (
   rp 4 (decide (b > (255 : Int)) = false) (
   rp 3 ((a == b) = false) (
   rp 3 (decide (port < (1 : Int)) = false) (
   rp 4 (decide (port > (65535 : Int)) = false) (
   (decide ((↑n : Int) > (40 : Int)) = false) ::
   (AV.val (Value.int IntKind.i64 a) = AV.val (Value.int IntKind.i64 a)) ::
   (AV.val (Value.int IntKind.i64 b) = AV.val (Value.int IntKind.i64 b)) ::
   (AV.val (Value.int IntKind.i64 port) = AV.val (Value.int IntKind.i64 port)) ::
   ((AV.view 1 n fun k => [AV.val (Value.int IntKind.i64 (x k))]) = AV.view 1 n fun i => [AV.val (Value.int IntKind.i64 (x i))]) ::
   rp 2 (AV.val (Value.int IntKind.i64 (-1 : Int)) = AV.val (Value.int IntKind.i64 (-1 : Int))) (
   (AV.val (Value.int IntKind.i64 (0 : Int)) = AV.val (Value.int IntKind.i64 (0 : Int))) ::
   (EvXL Try.prog 0 (loopAt Try.prog 10 8) (GoalX.st (LoopX.G (ndL1 a b port n x c d)) 0) (LoopX.ex (ndL1 a b port n x c d)) (GoalX.st (LoopX.E (ndL1 a b port n x c d)) 0)) ::
   rp 4 (((↑n : Int) == (0 : Int)) = false) ( [])))))))))) := by kernel_rfl

set_option maxRecDepth 100000 in
theorem ends_lo (a : Int) (b : Int) (port : Int) (n : Nat) (x : Nat → Int) (ys1 : List UInt8) (ys2 : List UInt8) (ys3 : List UInt8) (ys4 : List UInt8) : stepXS kU [(93, { ob := [(4, 5)] }),
   (10, { op := [(15, 36, .br false), (11, 5, .cut 58 (ys1)), (11, 7, .cut 397 (ys2)), (12, 5, .cut 436 (ys3)), (12, 7, .cut 956 (ys4))], gd := [(15, 22, false), (15, 23, false), (15, 24, false), (15, 35, false)], br := [(64, true)], ob := [(10, 2), (10, 8), (11, 7), (12, 7), (13, 1), (14, 1)] }),
   (25, { ob := [(1, 1), (5, 4)] }),
   (105, { op := [(1, 16, .br false)], gd := [(1, 8, false), (1, 9, false), (1, 10, false), (1, 11, false), (1, 12, false), (1, 13, false), (1, 14, false), (1, 15, false)], ob := [(6, 5)] }),
   (104, { op := [(5, 18, .br true)], gd := [(5, 13, true), (5, 14, true), (5, 15, true), (5, 16, true), (5, 17, true)] }),
   (66, { ob := [(1, 6)] }),
   (81, { op := [(3, 12, .br false), (10, 2, .keep)], gd := [(3, 10, false), (3, 11, false)], ob := [(1, 2), (5, 3), (10, 2), (12, 3)] }),
   (97, { ob := [(1, 2)] }),
   (48, { br := [(23, false)], ob := [(1, 1), (10, 2)] }),
   (96, { op := [(1, 7, .br true)], gd := [(1, 4, true), (1, 5, true), (1, 6, true)] }),
   (64, { ob := [(1, 5)] })] Try.prog 10 8 (ndG0 a b port n x) (ndG1 a b port n x (40000 : Int) (40001 : Int) 1) [0, 1, 2, 933] 0 [] =
   some (.normal,
   (decide ((0 : Int) < (↑n : Int)) = true) ::
   rp 2 ((0 : Int) ≤ (0 : Int) ∧ (0 : Int) < (↑n : Int)) (
   rp 2 (True) (
   (1 ≤ 1) ::
   (byteP [(10 : Int), (0 : Int), (0 : Int), IntKind.wrap IntKind.u8 a, (8 : Int), (8 : Int), IntKind.wrap IntKind.u8 (Int.fdiv (x 0) (256 : Int)), IntKind.wrap IntKind.u8 (x 0)]) ::
   ((0 : Int) ≤ port ∧ port ≤ (65535 : Int)) ::
   ((0 : Int) ≤ (53 : Int) ∧ (53 : Int) ≤ (65535 : Int)) ::
   (1 ≤ 1472) ::
   (0 ≤ 100000) ::
   (udpP (10 : Int) (0 : Int) (0 : Int) (IntKind.wrap IntKind.u8 a) (8 : Int) (8 : Int) (IntKind.wrap IntKind.u8 (Int.fdiv (x 0) (256 : Int))) (IntKind.wrap IntKind.u8 (x 0)) port (53 : Int) [(120 : UInt8)] = ys1) ::
   (0 ≤ 0) ::
   (9 ≤ List.length ys1) ::
   ((17 : Int) = (17 : Int)) ::
   rp 2 ((0 : Int) = (0 : Int)) (
   (byteP [(10 : Int), (0 : Int), (0 : Int), IntKind.wrap IntKind.u8 a, (8 : Int), (8 : Int), IntKind.wrap IntKind.u8 (Int.fdiv (x 0) (256 : Int)), IntKind.wrap IntKind.u8 (x 0)]) ::
   (8 ≤ at16 (List.take 9 ys1) 4) ::
   (at16 (List.take 9 ys1) 4 ≤ List.length (List.take 9 ys1)) ::
   (List.length (List.take 9 ys1) ≤ 100000) ::
   (at16 (List.take 9 ys1) 6 = 0 ∨ ofL (psd (17 : Int) (10 : Int) (0 : Int) (0 : Int) (IntKind.wrap IntKind.u8 a) (8 : Int) (8 : Int) (IntKind.wrap IntKind.u8 (Int.fdiv (x 0) (256 : Int))) (IntKind.wrap IntKind.u8 (x 0)) (↑(at16 (List.take 9 ys1) 4) : Int) (List.take (at16 (List.take 9 ys1) 4) (List.take 9 ys1))) = 0) ::
   (((↑(at16 (List.take 9 ys1) 0) : Int) == (0 : Int)) = false) ::
   rp 4 (decide ((↑(at16 (List.take 9 ys1) 0) : Int) ≥ (1 : Int)) = true) (
   rp 3 ((!decide ((↑(at16 (List.take 9 ys1) 0) : Int) ≤ (65535 : Int))) = false) (
   (SameO (some { t := 109, sz := 4, exact := true, fz := false, body := Body.rows [[AV.val (Value.int IntKind.i64 (40000 : Int)), AV.val (Value.int IntKind.i64 (128 : Int)), AV.val (Value.int IntKind.i64 (0 : Int)), AV.val (Value.slice none 0 0)]] }) { t := 109, sz := 4, exact := true, fz := false, body := Body.rows [[AV.val (Value.int IntKind.i64 (40000 : Int)), AV.val (Value.int IntKind.i64 (128 : Int)), AV.val (Value.int IntKind.i64 (0 : Int)), AV.val (Value.slice none 0 0)]] }) ::
   rp 9 (decide ((↑(at16 (List.take 9 ys1) 0) : Int) ≥ (40000 : Int)) = false) (
   (0 ≤ 0) ::
   (9 ≤ List.length ys1) ::
   (0 + (at16 (List.take 9 ys1) 4 - 8) ≤ List.length (List.take (at16 (List.take 9 ys1) 4 - 8) (List.drop 8 (List.take 9 ys1)))) ::
   (byteP [(203 : Int), (0 : Int), (113 : Int), (7 : Int), (8 : Int), (8 : Int), IntKind.wrap IntKind.u8 (Int.fdiv (x 0) (256 : Int)), IntKind.wrap IntKind.u8 (x 0)]) ::
   ((0 : Int) ≤ (40000 : Int) ∧ (40000 : Int) ≤ (65535 : Int)) ::
   ((0 : Int) ≤ (↑(at16 (List.take 9 ys1) 2) : Int) ∧ (↑(at16 (List.take 9 ys1) 2) : Int) ≤ (65535 : Int)) ::
   (List.length (List.take (at16 (List.take 9 ys1) 4 - 8) (List.take (at16 (List.take 9 ys1) 4 - 8) (List.drop 8 (List.take 9 ys1)))) ≤ 1472) ::
   (0 ≤ 100000) ::
   (udpP (203 : Int) (0 : Int) (113 : Int) (7 : Int) (8 : Int) (8 : Int) (IntKind.wrap IntKind.u8 (Int.fdiv (x 0) (256 : Int))) (IntKind.wrap IntKind.u8 (x 0)) (40000 : Int) (↑(at16 (List.take 9 ys1) 2) : Int) (List.take (at16 (List.take 9 ys1) 4 - 8) (List.take (at16 (List.take 9 ys1) 4 - 8) (List.drop 8 (List.take 9 ys1)))) = ys2) ::
   rp 2 (True) (
   (1 ≤ 1) ::
   (byteP [(10 : Int), (0 : Int), (0 : Int), IntKind.wrap IntKind.u8 b, (8 : Int), (8 : Int), IntKind.wrap IntKind.u8 (Int.fdiv (x 0) (256 : Int)), IntKind.wrap IntKind.u8 (x 0)]) ::
   ((0 : Int) ≤ port ∧ port ≤ (65535 : Int)) ::
   ((0 : Int) ≤ (53 : Int) ∧ (53 : Int) ≤ (65535 : Int)) ::
   (1 ≤ 1472) ::
   (0 ≤ 100000) ::
   (udpP (10 : Int) (0 : Int) (0 : Int) (IntKind.wrap IntKind.u8 b) (8 : Int) (8 : Int) (IntKind.wrap IntKind.u8 (Int.fdiv (x 0) (256 : Int))) (IntKind.wrap IntKind.u8 (x 0)) port (53 : Int) [(120 : UInt8)] = ys3) ::
   (0 ≤ 0) ::
   (9 ≤ List.length ys3) ::
   ((17 : Int) = (17 : Int)) ::
   rp 2 ((0 : Int) = (0 : Int)) (
   (byteP [(10 : Int), (0 : Int), (0 : Int), IntKind.wrap IntKind.u8 b, (8 : Int), (8 : Int), IntKind.wrap IntKind.u8 (Int.fdiv (x 0) (256 : Int)), IntKind.wrap IntKind.u8 (x 0)]) ::
   (8 ≤ at16 (List.take 9 ys3) 4) ::
   (at16 (List.take 9 ys3) 4 ≤ List.length (List.take 9 ys3)) ::
   (List.length (List.take 9 ys3) ≤ 100000) ::
   (at16 (List.take 9 ys3) 6 = 0 ∨ ofL (psd (17 : Int) (10 : Int) (0 : Int) (0 : Int) (IntKind.wrap IntKind.u8 b) (8 : Int) (8 : Int) (IntKind.wrap IntKind.u8 (Int.fdiv (x 0) (256 : Int))) (IntKind.wrap IntKind.u8 (x 0)) (↑(at16 (List.take 9 ys3) 4) : Int) (List.take (at16 (List.take 9 ys3) 4) (List.take 9 ys3))) = 0) ::
   (((↑(at16 (List.take 9 ys3) 0) : Int) == (0 : Int)) = false) ::
   rp 4 (decide ((↑(at16 (List.take 9 ys3) 0) : Int) ≥ (1 : Int)) = true) (
   rp 3 ((!decide ((↑(at16 (List.take 9 ys3) 0) : Int) ≤ (65535 : Int))) = false) (
   rp 6 ((!(true && (true && (true && (IntKind.wrap IntKind.u8 a == IntKind.wrap IntKind.u8 b && true))))) = true) (
   (SameO (some { t := 65, sz := 9, exact := false, fz := false, body := Body.rows [[AV.val (Value.int IntKind.i64 (17 : Int)), AV.val (Value.int IntKind.i64 (40000 : Int)), AV.val (Value.int IntKind.u8 (10 : Int)), AV.val (Value.int IntKind.u8 (0 : Int)), AV.val (Value.int IntKind.u8 (0 : Int)), AV.val (Value.int IntKind.u8 (IntKind.wrap IntKind.u8 a)), AV.val (Value.int IntKind.i64 (↑(at16 (List.take 9 ys1) 0) : Int)), AV.val (Value.int IntKind.i64 (1 : Int)), AV.val (Value.int IntKind.i64 (120 : Int))]] }) { t := 65, sz := 9, exact := false, fz := false, body := Body.rows [[AV.val (Value.int IntKind.i64 (17 : Int)), AV.val (Value.int IntKind.i64 (40000 : Int)), AV.val (Value.int IntKind.u8 (10 : Int)), AV.val (Value.int IntKind.u8 (0 : Int)), AV.val (Value.int IntKind.u8 (0 : Int)), AV.val (Value.int IntKind.u8 (IntKind.wrap IntKind.u8 a)), AV.val (Value.int IntKind.i64 (↑(at16 (List.take 9 ys1) 0) : Int)), AV.val (Value.int IntKind.i64 (1 : Int)), AV.val (Value.int IntKind.i64 (120 : Int))]] }) ::
   (SameO (some { t := 109, sz := 4, exact := true, fz := false, body := Body.rows [[AV.val (Value.int IntKind.i64 (40000 : Int)), AV.val (Value.int IntKind.i64 (128 : Int)), AV.val (Value.int IntKind.i64 (0 : Int)), AV.sl 374 0 1 none]] }) { t := 109, sz := 4, exact := true, fz := false, body := Body.rows [[AV.val (Value.int IntKind.i64 (40000 : Int)), AV.val (Value.int IntKind.i64 (128 : Int)), AV.val (Value.int IntKind.i64 (0 : Int)), AV.sl 374 0 1 none]] }) ::
   rp 9 (decide ((↑(at16 (List.take 9 ys3) 0) : Int) ≥ (40000 : Int)) = false) (
   (0 ≤ 0) ::
   (9 ≤ List.length ys3) ::
   (0 + (at16 (List.take 9 ys3) 4 - 8) ≤ List.length (List.take (at16 (List.take 9 ys3) 4 - 8) (List.drop 8 (List.take 9 ys3)))) ::
   (byteP [(203 : Int), (0 : Int), (113 : Int), (7 : Int), (8 : Int), (8 : Int), IntKind.wrap IntKind.u8 (Int.fdiv (x 0) (256 : Int)), IntKind.wrap IntKind.u8 (x 0)]) ::
   ((0 : Int) ≤ (40001 : Int) ∧ (40001 : Int) ≤ (65535 : Int)) ::
   ((0 : Int) ≤ (↑(at16 (List.take 9 ys3) 2) : Int) ∧ (↑(at16 (List.take 9 ys3) 2) : Int) ≤ (65535 : Int)) ::
   (List.length (List.take (at16 (List.take 9 ys3) 4 - 8) (List.take (at16 (List.take 9 ys3) 4 - 8) (List.drop 8 (List.take 9 ys3)))) ≤ 1472) ::
   (0 ≤ 100000) ::
   (udpP (203 : Int) (0 : Int) (113 : Int) (7 : Int) (8 : Int) (8 : Int) (IntKind.wrap IntKind.u8 (Int.fdiv (x 0) (256 : Int))) (IntKind.wrap IntKind.u8 (x 0)) (40001 : Int) (↑(at16 (List.take 9 ys3) 2) : Int) (List.take (at16 (List.take 9 ys3) 4 - 8) (List.take (at16 (List.take 9 ys3) 4 - 8) (List.drop 8 (List.take 9 ys3)))) = ys4) ::
   (0 ≤ 0) ::
   (0 + (8 + List.length (List.take (at16 (List.take 9 ys1) 4 - 8) (List.take (at16 (List.take 9 ys1) 4 - 8) (List.drop 8 (List.take 9 ys1))))) ≤ List.length ys2) ::
   ((17 : Int) = (17 : Int)) ::
   rp 2 ((0 : Int) = (0 : Int)) (
   (byteP [(203 : Int), (0 : Int), (113 : Int), (7 : Int), (8 : Int), (8 : Int), IntKind.wrap IntKind.u8 (Int.fdiv (x 0) (256 : Int)), IntKind.wrap IntKind.u8 (x 0)]) ::
   (8 ≤ at16 (List.take (8 + List.length (List.take (at16 (List.take 9 ys1) 4 - 8) (List.take (at16 (List.take 9 ys1) 4 - 8) (List.drop 8 (List.take 9 ys1))))) ys2) 4) ::
   (at16 (List.take (8 + List.length (List.take (at16 (List.take 9 ys1) 4 - 8) (List.take (at16 (List.take 9 ys1) 4 - 8) (List.drop 8 (List.take 9 ys1))))) ys2) 4 ≤ List.length (List.take (8 + List.length (List.take (at16 (List.take 9 ys1) 4 - 8) (List.take (at16 (List.take 9 ys1) 4 - 8) (List.drop 8 (List.take 9 ys1))))) ys2)) ::
   (List.length (List.take (8 + List.length (List.take (at16 (List.take 9 ys1) 4 - 8) (List.take (at16 (List.take 9 ys1) 4 - 8) (List.drop 8 (List.take 9 ys1))))) ys2) ≤ 100000) ::
   (at16 (List.take (8 + List.length (List.take (at16 (List.take 9 ys1) 4 - 8) (List.take (at16 (List.take 9 ys1) 4 - 8) (List.drop 8 (List.take 9 ys1))))) ys2) 6 = 0 ∨ ofL (psd (17 : Int) (203 : Int) (0 : Int) (113 : Int) (7 : Int) (8 : Int) (8 : Int) (IntKind.wrap IntKind.u8 (Int.fdiv (x 0) (256 : Int))) (IntKind.wrap IntKind.u8 (x 0)) (↑(at16 (List.take (8 + List.length (List.take (at16 (List.take 9 ys1) 4 - 8) (List.take (at16 (List.take 9 ys1) 4 - 8) (List.drop 8 (List.take 9 ys1))))) ys2) 4) : Int) (List.take (at16 (List.take (8 + List.length (List.take (at16 (List.take 9 ys1) 4 - 8) (List.take (at16 (List.take 9 ys1) 4 - 8) (List.drop 8 (List.take 9 ys1))))) ys2) 4) (List.take (8 + List.length (List.take (at16 (List.take 9 ys1) 4 - 8) (List.take (at16 (List.take 9 ys1) 4 - 8) (List.drop 8 (List.take 9 ys1))))) ys2))) = 0) ::
   (0 ≤ 0) ::
   (0 + (8 + List.length (List.take (at16 (List.take 9 ys3) 4 - 8) (List.take (at16 (List.take 9 ys3) 4 - 8) (List.drop 8 (List.take 9 ys3))))) ≤ List.length ys4) ::
   ((17 : Int) = (17 : Int)) ::
   rp 2 ((0 : Int) = (0 : Int)) (
   (byteP [(203 : Int), (0 : Int), (113 : Int), (7 : Int), (8 : Int), (8 : Int), IntKind.wrap IntKind.u8 (Int.fdiv (x 0) (256 : Int)), IntKind.wrap IntKind.u8 (x 0)]) ::
   (8 ≤ at16 (List.take (8 + List.length (List.take (at16 (List.take 9 ys3) 4 - 8) (List.take (at16 (List.take 9 ys3) 4 - 8) (List.drop 8 (List.take 9 ys3))))) ys4) 4) ::
   (at16 (List.take (8 + List.length (List.take (at16 (List.take 9 ys3) 4 - 8) (List.take (at16 (List.take 9 ys3) 4 - 8) (List.drop 8 (List.take 9 ys3))))) ys4) 4 ≤ List.length (List.take (8 + List.length (List.take (at16 (List.take 9 ys3) 4 - 8) (List.take (at16 (List.take 9 ys3) 4 - 8) (List.drop 8 (List.take 9 ys3))))) ys4)) ::
   (List.length (List.take (8 + List.length (List.take (at16 (List.take 9 ys3) 4 - 8) (List.take (at16 (List.take 9 ys3) 4 - 8) (List.drop 8 (List.take 9 ys3))))) ys4) ≤ 100000) ::
   (at16 (List.take (8 + List.length (List.take (at16 (List.take 9 ys3) 4 - 8) (List.take (at16 (List.take 9 ys3) 4 - 8) (List.drop 8 (List.take 9 ys3))))) ys4) 6 = 0 ∨ ofL (psd (17 : Int) (203 : Int) (0 : Int) (113 : Int) (7 : Int) (8 : Int) (8 : Int) (IntKind.wrap IntKind.u8 (Int.fdiv (x 0) (256 : Int))) (IntKind.wrap IntKind.u8 (x 0)) (↑(at16 (List.take (8 + List.length (List.take (at16 (List.take 9 ys3) 4 - 8) (List.take (at16 (List.take 9 ys3) 4 - 8) (List.drop 8 (List.take 9 ys3))))) ys4) 4) : Int) (List.take (at16 (List.take (8 + List.length (List.take (at16 (List.take 9 ys3) 4 - 8) (List.take (at16 (List.take 9 ys3) 4 - 8) (List.drop 8 (List.take 9 ys3))))) ys4) 4) (List.take (8 + List.length (List.take (at16 (List.take 9 ys3) 4 - 8) (List.take (at16 (List.take 9 ys3) 4 - 8) (List.drop 8 (List.take 9 ys3))))) ys4))) = 0) ::
   rp 5 (((↑(at16 (List.take (8 + List.length (List.take (at16 (List.take 9 ys1) 4 - 8) (List.take (at16 (List.take 9 ys1) 4 - 8) (List.drop 8 (List.take 9 ys1))))) ys2) 0) : Int) == (↑(at16 (List.take (8 + List.length (List.take (at16 (List.take 9 ys3) 4 - 8) (List.take (at16 (List.take 9 ys3) 4 - 8) (List.drop 8 (List.take 9 ys3))))) ys4) 0) : Int)) = false) (
   (AV.val (Value.int IntKind.i64 a) = AV.val (Value.int IntKind.i64 a)) ::
   (AV.val (Value.int IntKind.i64 b) = AV.val (Value.int IntKind.i64 b)) ::
   (AV.val (Value.int IntKind.i64 port) = AV.val (Value.int IntKind.i64 port)) ::
   ((AV.view 1 n fun k => [AV.val (Value.int IntKind.i64 (x k))]) = AV.view 1 n fun i => [AV.val (Value.int IntKind.i64 (x i))]) ::
   (AV.val (Value.int IntKind.i64 (↑(at16 (List.take (8 + List.length (List.take (at16 (List.take 9 ys1) 4 - 8) (List.take (at16 (List.take 9 ys1) 4 - 8) (List.drop 8 (List.take 9 ys1))))) ys2) 0) : Int)) = AV.val (Value.int IntKind.i64 (40000 : Int))) ::
   (AV.val (Value.int IntKind.i64 (↑(at16 (List.take (8 + List.length (List.take (at16 (List.take 9 ys3) 4 - 8) (List.take (at16 (List.take 9 ys3) 4 - 8) (List.drop 8 (List.take 9 ys3))))) ys4) 0) : Int)) = AV.val (Value.int IntKind.i64 (40001 : Int))) ::
   (AV.val (Value.int IntKind.i64 (1 : Int)) = AV.val (Value.int IntKind.i64 (1 : Int))) ::
   (SameO (some { t := 65, sz := 9, exact := false, fz := false, body := Body.rows [[AV.val (Value.int IntKind.i64 (17 : Int)), AV.val (Value.int IntKind.i64 (40000 : Int)), AV.val (Value.int IntKind.u8 (10 : Int)), AV.val (Value.int IntKind.u8 (0 : Int)), AV.val (Value.int IntKind.u8 (0 : Int)), AV.val (Value.int IntKind.u8 (IntKind.wrap IntKind.u8 a)), AV.val (Value.int IntKind.i64 (↑(at16 (List.take 9 ys1) 0) : Int)), AV.val (Value.int IntKind.i64 (1 : Int)), AV.val (Value.int IntKind.i64 (120 : Int))], [AV.val (Value.int IntKind.i64 (17 : Int)), AV.val (Value.int IntKind.i64 (40001 : Int)), AV.val (Value.int IntKind.u8 (10 : Int)), AV.val (Value.int IntKind.u8 (0 : Int)), AV.val (Value.int IntKind.u8 (0 : Int)), AV.val (Value.int IntKind.u8 (IntKind.wrap IntKind.u8 b)), AV.val (Value.int IntKind.i64 (↑(at16 (List.take 9 ys3) 0) : Int)), AV.val (Value.int IntKind.i64 (1 : Int)), AV.val (Value.int IntKind.i64 (120 : Int))]] }) { t := 65, sz := 9, exact := false, fz := false, body := Body.rows [[AV.val (Value.int IntKind.i64 (17 : Int)), AV.val (Value.int IntKind.i64 (40000 : Int)), AV.val (Value.int IntKind.u8 (10 : Int)), AV.val (Value.int IntKind.u8 (0 : Int)), AV.val (Value.int IntKind.u8 (0 : Int)), AV.val (Value.int IntKind.u8 (IntKind.wrap IntKind.u8 a)), AV.val (Value.int IntKind.i64 port), AV.val (Value.int IntKind.i64 (1 : Int)), AV.val (Value.int IntKind.i64 (120 : Int))], [AV.val (Value.int IntKind.i64 (17 : Int)), AV.val (Value.int IntKind.i64 (40001 : Int)), AV.val (Value.int IntKind.u8 (10 : Int)), AV.val (Value.int IntKind.u8 (0 : Int)), AV.val (Value.int IntKind.u8 (0 : Int)), AV.val (Value.int IntKind.u8 (IntKind.wrap IntKind.u8 b)), AV.val (Value.int IntKind.i64 port), AV.val (Value.int IntKind.i64 (1 : Int)), AV.val (Value.int IntKind.i64 (120 : Int))]] }) :: [])))))))))))))))) := by kernel_rfl

set_option maxRecDepth 100000 in
theorem ends_eq (a : Int) (b : Int) (port : Int) (n : Nat) (x : Nat → Int) (ys1 : List UInt8) (ys2 : List UInt8) (ys3 : List UInt8) (ys4 : List UInt8) : stepXS kU [(724000093, { ob := [(4, 5)] }),
   (25, { ob := [(1, 1), (5, 4)] }),
   (875000094, { op := [(1, 8, .as (.c (.c (.eq (.val (.bool false))))))] }),
   (934000093, { br := [(16, false)], ob := [(4, 5)] }),
   (737000094, { op := [(1, 8, .as (.c (.c (.eq (.val (.bool true))))))] }),
   (81, { op := [(3, 12, .br false), (10, 2, .keep)], gd := [(3, 10, false), (3, 11, false)], ob := [(1, 2), (5, 3), (10, 2), (12, 3)] }),
   (48, { br := [(23, false)], ob := [(1, 1), (10, 2)] }),
   (10, { op := [(15, 36, .br false), (11, 5, .cut 58 (ys1)), (11, 7, .cut 384 (ys2)), (12, 5, .cut 423 (ys3)), (12, 7, .cut 999 (ys4))], gd := [(15, 22, false), (15, 23, false), (15, 24, false), (15, 35, false)], br := [(64, true)], ob := [(10, 2), (10, 8), (11, 7), (12, 7), (13, 1), (14, 1)] }),
   (105, { op := [(1, 14, .keep), (1, 16, .br true)], gd := [(1, 8, true), (1, 9, true), (1, 10, true), (1, 11, true), (1, 12, true), (1, 13, true), (1, 14, true), (1, 15, true)], ob := [(1, 14), (6, 5)] }),
   (104, { op := [(5, 18, .br true)], gd := [(5, 13, true), (5, 14, true), (5, 15, true), (5, 16, true), (5, 17, true)] }),
   (807000094, { op := [(1, 8, .as (.c (.c (.eq (.val (.bool true))))))] }),
   (66, { ob := [(1, 6)] }),
   (97, { ob := [(1, 2)] }),
   (64, { ob := [(1, 5)] }),
   (96, { op := [(1, 7, .br true)], gd := [(1, 4, true), (1, 5, true), (1, 6, true)] })] Try.prog 10 8 (ndG0 a b port n x) (ndG1 a b port n x (40000 : Int) (40001 : Int) 1) [0, 1, 2, 976] 0 [] =
   some (.normal,
   (decide ((0 : Int) < (↑n : Int)) = true) ::
   rp 2 ((0 : Int) ≤ (0 : Int) ∧ (0 : Int) < (↑n : Int)) (
   rp 2 (True) (
   (1 ≤ 1) ::
   (byteP [(10 : Int), (0 : Int), (0 : Int), IntKind.wrap IntKind.u8 a, (8 : Int), (8 : Int), IntKind.wrap IntKind.u8 (Int.fdiv (x 0) (256 : Int)), IntKind.wrap IntKind.u8 (x 0)]) ::
   ((0 : Int) ≤ port ∧ port ≤ (65535 : Int)) ::
   ((0 : Int) ≤ (53 : Int) ∧ (53 : Int) ≤ (65535 : Int)) ::
   (1 ≤ 1472) ::
   (0 ≤ 100000) ::
   (udpP (10 : Int) (0 : Int) (0 : Int) (IntKind.wrap IntKind.u8 a) (8 : Int) (8 : Int) (IntKind.wrap IntKind.u8 (Int.fdiv (x 0) (256 : Int))) (IntKind.wrap IntKind.u8 (x 0)) port (53 : Int) [(120 : UInt8)] = ys1) ::
   (0 ≤ 0) ::
   (9 ≤ List.length ys1) ::
   ((17 : Int) = (17 : Int)) ::
   rp 2 ((0 : Int) = (0 : Int)) (
   (byteP [(10 : Int), (0 : Int), (0 : Int), IntKind.wrap IntKind.u8 a, (8 : Int), (8 : Int), IntKind.wrap IntKind.u8 (Int.fdiv (x 0) (256 : Int)), IntKind.wrap IntKind.u8 (x 0)]) ::
   (8 ≤ at16 (List.take 9 ys1) 4) ::
   (at16 (List.take 9 ys1) 4 ≤ List.length (List.take 9 ys1)) ::
   (List.length (List.take 9 ys1) ≤ 100000) ::
   (at16 (List.take 9 ys1) 6 = 0 ∨ ofL (psd (17 : Int) (10 : Int) (0 : Int) (0 : Int) (IntKind.wrap IntKind.u8 a) (8 : Int) (8 : Int) (IntKind.wrap IntKind.u8 (Int.fdiv (x 0) (256 : Int))) (IntKind.wrap IntKind.u8 (x 0)) (↑(at16 (List.take 9 ys1) 4) : Int) (List.take (at16 (List.take 9 ys1) 4) (List.take 9 ys1))) = 0) ::
   (((↑(at16 (List.take 9 ys1) 0) : Int) == (0 : Int)) = false) ::
   rp 4 (decide ((↑(at16 (List.take 9 ys1) 0) : Int) ≥ (1 : Int)) = true) (
   rp 3 ((!decide ((↑(at16 (List.take 9 ys1) 0) : Int) ≤ (65535 : Int))) = false) (
   (SameO (some { t := 109, sz := 4, exact := true, fz := false, body := Body.rows [[AV.val (Value.int IntKind.i64 (40000 : Int)), AV.val (Value.int IntKind.i64 (128 : Int)), AV.val (Value.int IntKind.i64 (0 : Int)), AV.val (Value.slice none 0 0)]] }) { t := 109, sz := 4, exact := true, fz := false, body := Body.rows [[AV.val (Value.int IntKind.i64 (40000 : Int)), AV.val (Value.int IntKind.i64 (128 : Int)), AV.val (Value.int IntKind.i64 (0 : Int)), AV.val (Value.slice none 0 0)]] }) ::
   rp 7 (decide ((↑(at16 (List.take 9 ys1) 0) : Int) ≥ (40000 : Int)) = true) (
   (SameO (some { t := 109, sz := 4, exact := true, fz := false, body := Body.rows [[AV.val (Value.int IntKind.i64 (40000 : Int)), AV.val (Value.int IntKind.i64 (128 : Int)), AV.val (Value.int IntKind.i64 (0 : Int)), AV.val (Value.slice none 0 0)]] }) { t := 109, sz := 4, exact := true, fz := false, body := Body.rows [[AV.val (Value.int IntKind.i64 (40000 : Int)), AV.val (Value.int IntKind.i64 (128 : Int)), AV.val (Value.int IntKind.i64 (0 : Int)), AV.val (Value.slice none 0 0)]] }) ::
   rp 2 (decide ((↑(at16 (List.take 9 ys1) 0) : Int) ≥ (40000 : Int)) = true) (
   (0 ≤ 0) ::
   (9 ≤ List.length ys1) ::
   (0 + (at16 (List.take 9 ys1) 4 - 8) ≤ List.length (List.take (at16 (List.take 9 ys1) 4 - 8) (List.drop 8 (List.take 9 ys1)))) ::
   (byteP [(203 : Int), (0 : Int), (113 : Int), (7 : Int), (8 : Int), (8 : Int), IntKind.wrap IntKind.u8 (Int.fdiv (x 0) (256 : Int)), IntKind.wrap IntKind.u8 (x 0)]) ::
   ((0 : Int) ≤ (↑(at16 (List.take 9 ys1) 0) : Int) ∧ (↑(at16 (List.take 9 ys1) 0) : Int) ≤ (65535 : Int)) ::
   ((0 : Int) ≤ (↑(at16 (List.take 9 ys1) 2) : Int) ∧ (↑(at16 (List.take 9 ys1) 2) : Int) ≤ (65535 : Int)) ::
   (List.length (List.take (at16 (List.take 9 ys1) 4 - 8) (List.take (at16 (List.take 9 ys1) 4 - 8) (List.drop 8 (List.take 9 ys1)))) ≤ 1472) ::
   (0 ≤ 100000) ::
   (udpP (203 : Int) (0 : Int) (113 : Int) (7 : Int) (8 : Int) (8 : Int) (IntKind.wrap IntKind.u8 (Int.fdiv (x 0) (256 : Int))) (IntKind.wrap IntKind.u8 (x 0)) (↑(at16 (List.take 9 ys1) 0) : Int) (↑(at16 (List.take 9 ys1) 2) : Int) (List.take (at16 (List.take 9 ys1) 4 - 8) (List.take (at16 (List.take 9 ys1) 4 - 8) (List.drop 8 (List.take 9 ys1)))) = ys2) ::
   rp 2 (True) (
   (1 ≤ 1) ::
   (byteP [(10 : Int), (0 : Int), (0 : Int), IntKind.wrap IntKind.u8 b, (8 : Int), (8 : Int), IntKind.wrap IntKind.u8 (Int.fdiv (x 0) (256 : Int)), IntKind.wrap IntKind.u8 (x 0)]) ::
   ((0 : Int) ≤ port ∧ port ≤ (65535 : Int)) ::
   ((0 : Int) ≤ (53 : Int) ∧ (53 : Int) ≤ (65535 : Int)) ::
   (1 ≤ 1472) ::
   (0 ≤ 100000) ::
   (udpP (10 : Int) (0 : Int) (0 : Int) (IntKind.wrap IntKind.u8 b) (8 : Int) (8 : Int) (IntKind.wrap IntKind.u8 (Int.fdiv (x 0) (256 : Int))) (IntKind.wrap IntKind.u8 (x 0)) port (53 : Int) [(120 : UInt8)] = ys3) ::
   (0 ≤ 0) ::
   (9 ≤ List.length ys3) ::
   ((17 : Int) = (17 : Int)) ::
   rp 2 ((0 : Int) = (0 : Int)) (
   (byteP [(10 : Int), (0 : Int), (0 : Int), IntKind.wrap IntKind.u8 b, (8 : Int), (8 : Int), IntKind.wrap IntKind.u8 (Int.fdiv (x 0) (256 : Int)), IntKind.wrap IntKind.u8 (x 0)]) ::
   (8 ≤ at16 (List.take 9 ys3) 4) ::
   (at16 (List.take 9 ys3) 4 ≤ List.length (List.take 9 ys3)) ::
   (List.length (List.take 9 ys3) ≤ 100000) ::
   (at16 (List.take 9 ys3) 6 = 0 ∨ ofL (psd (17 : Int) (10 : Int) (0 : Int) (0 : Int) (IntKind.wrap IntKind.u8 b) (8 : Int) (8 : Int) (IntKind.wrap IntKind.u8 (Int.fdiv (x 0) (256 : Int))) (IntKind.wrap IntKind.u8 (x 0)) (↑(at16 (List.take 9 ys3) 4) : Int) (List.take (at16 (List.take 9 ys3) 4) (List.take 9 ys3))) = 0) ::
   (((↑(at16 (List.take 9 ys3) 0) : Int) == (0 : Int)) = false) ::
   rp 4 (decide ((↑(at16 (List.take 9 ys3) 0) : Int) ≥ (1 : Int)) = true) (
   rp 3 ((!decide ((↑(at16 (List.take 9 ys3) 0) : Int) ≤ (65535 : Int))) = false) (
   rp 6 ((!(true && (true && (true && (IntKind.wrap IntKind.u8 a == IntKind.wrap IntKind.u8 b && true))))) = true) (
   (SameO (some { t := 65, sz := 9, exact := false, fz := false, body := Body.rows [[AV.val (Value.int IntKind.i64 (17 : Int)), AV.val (Value.int IntKind.i64 (↑(at16 (List.take 9 ys1) 0) : Int)), AV.val (Value.int IntKind.u8 (10 : Int)), AV.val (Value.int IntKind.u8 (0 : Int)), AV.val (Value.int IntKind.u8 (0 : Int)), AV.val (Value.int IntKind.u8 (IntKind.wrap IntKind.u8 a)), AV.val (Value.int IntKind.i64 (↑(at16 (List.take 9 ys1) 0) : Int)), AV.val (Value.int IntKind.i64 (1 : Int)), AV.val (Value.int IntKind.i64 (120 : Int))]] }) { t := 65, sz := 9, exact := false, fz := false, body := Body.rows [[AV.val (Value.int IntKind.i64 (17 : Int)), AV.val (Value.int IntKind.i64 (↑(at16 (List.take 9 ys1) 0) : Int)), AV.val (Value.int IntKind.u8 (10 : Int)), AV.val (Value.int IntKind.u8 (0 : Int)), AV.val (Value.int IntKind.u8 (0 : Int)), AV.val (Value.int IntKind.u8 (IntKind.wrap IntKind.u8 a)), AV.val (Value.int IntKind.i64 (↑(at16 (List.take 9 ys1) 0) : Int)), AV.val (Value.int IntKind.i64 (1 : Int)), AV.val (Value.int IntKind.i64 (120 : Int))]] }) ::
   (SameO (some { t := 109, sz := 4, exact := true, fz := false, body := Body.rows [[AV.val (Value.int IntKind.i64 (40000 : Int)), AV.val (Value.int IntKind.i64 (128 : Int)), AV.val (Value.int IntKind.i64 (0 : Int)), AV.sl 361 0 1 none]] }) { t := 109, sz := 4, exact := true, fz := false, body := Body.rows [[AV.val (Value.int IntKind.i64 (40000 : Int)), AV.val (Value.int IntKind.i64 (128 : Int)), AV.val (Value.int IntKind.i64 (0 : Int)), AV.sl 361 0 1 none]] }) ::
   rp 7 (decide ((↑(at16 (List.take 9 ys3) 0) : Int) ≥ (40000 : Int)) = true) (
   (AV.val (Value.bool ((↑(at16 (List.take 9 ys1) 0) : Int) == (↑(at16 (List.take 9 ys3) 0) : Int))) = AV.val (Value.bool true)) ::
   (SameO (some { t := 65, sz := 9, exact := false, fz := false, body := Body.rows [[AV.val (Value.int IntKind.i64 (17 : Int)), AV.val (Value.int IntKind.i64 (↑(at16 (List.take 9 ys1) 0) : Int)), AV.val (Value.int IntKind.u8 (10 : Int)), AV.val (Value.int IntKind.u8 (0 : Int)), AV.val (Value.int IntKind.u8 (0 : Int)), AV.val (Value.int IntKind.u8 (IntKind.wrap IntKind.u8 a)), AV.val (Value.int IntKind.i64 (↑(at16 (List.take 9 ys1) 0) : Int)), AV.val (Value.int IntKind.i64 (1 : Int)), AV.val (Value.int IntKind.i64 (120 : Int))]] }) { t := 65, sz := 9, exact := false, fz := false, body := Body.rows [[AV.val (Value.int IntKind.i64 (17 : Int)), AV.val (Value.int IntKind.i64 (↑(at16 (List.take 9 ys1) 0) : Int)), AV.val (Value.int IntKind.u8 (10 : Int)), AV.val (Value.int IntKind.u8 (0 : Int)), AV.val (Value.int IntKind.u8 (0 : Int)), AV.val (Value.int IntKind.u8 (IntKind.wrap IntKind.u8 a)), AV.val (Value.int IntKind.i64 (↑(at16 (List.take 9 ys1) 0) : Int)), AV.val (Value.int IntKind.i64 (1 : Int)), AV.val (Value.int IntKind.i64 (120 : Int))]] }) ::
   (SameO (some { t := 109, sz := 4, exact := true, fz := false, body := Body.rows [[AV.val (Value.int IntKind.i64 (40000 : Int)), AV.val (Value.int IntKind.i64 (128 : Int)), AV.val (Value.int IntKind.i64 (0 : Int)), AV.sl 361 0 1 none]] }) { t := 109, sz := 4, exact := true, fz := false, body := Body.rows [[AV.val (Value.int IntKind.i64 (40000 : Int)), AV.val (Value.int IntKind.i64 (128 : Int)), AV.val (Value.int IntKind.i64 (0 : Int)), AV.sl 361 0 1 none]] }) ::
   rp 2 (decide ((↑(at16 (List.take 9 ys3) 0) : Int) ≥ (40000 : Int)) = true) (
   (AV.val (Value.bool ((↑(at16 (List.take 9 ys1) 0) : Int) == (40000 : Int))) = AV.val (Value.bool true)) ::
   (AV.val (Value.bool ((↑(at16 (List.take 9 ys1) 0) : Int) == (40001 : Int))) = AV.val (Value.bool false)) ::
   (((↑(at16 (List.take 9 ys1) 0) : Int) == (40001 : Int)) = false) ::
   (0 ≤ 0) ::
   (9 ≤ List.length ys3) ::
   (0 + (at16 (List.take 9 ys3) 4 - 8) ≤ List.length (List.take (at16 (List.take 9 ys3) 4 - 8) (List.drop 8 (List.take 9 ys3)))) ::
   (byteP [(203 : Int), (0 : Int), (113 : Int), (7 : Int), (8 : Int), (8 : Int), IntKind.wrap IntKind.u8 (Int.fdiv (x 0) (256 : Int)), IntKind.wrap IntKind.u8 (x 0)]) ::
   ((0 : Int) ≤ (40001 : Int) ∧ (40001 : Int) ≤ (65535 : Int)) ::
   ((0 : Int) ≤ (↑(at16 (List.take 9 ys3) 2) : Int) ∧ (↑(at16 (List.take 9 ys3) 2) : Int) ≤ (65535 : Int)) ::
   (List.length (List.take (at16 (List.take 9 ys3) 4 - 8) (List.take (at16 (List.take 9 ys3) 4 - 8) (List.drop 8 (List.take 9 ys3)))) ≤ 1472) ::
   (0 ≤ 100000) ::
   (udpP (203 : Int) (0 : Int) (113 : Int) (7 : Int) (8 : Int) (8 : Int) (IntKind.wrap IntKind.u8 (Int.fdiv (x 0) (256 : Int))) (IntKind.wrap IntKind.u8 (x 0)) (40001 : Int) (↑(at16 (List.take 9 ys3) 2) : Int) (List.take (at16 (List.take 9 ys3) 4 - 8) (List.take (at16 (List.take 9 ys3) 4 - 8) (List.drop 8 (List.take 9 ys3)))) = ys4) ::
   (0 ≤ 0) ::
   (0 + (8 + List.length (List.take (at16 (List.take 9 ys1) 4 - 8) (List.take (at16 (List.take 9 ys1) 4 - 8) (List.drop 8 (List.take 9 ys1))))) ≤ List.length ys2) ::
   ((17 : Int) = (17 : Int)) ::
   rp 2 ((0 : Int) = (0 : Int)) (
   (byteP [(203 : Int), (0 : Int), (113 : Int), (7 : Int), (8 : Int), (8 : Int), IntKind.wrap IntKind.u8 (Int.fdiv (x 0) (256 : Int)), IntKind.wrap IntKind.u8 (x 0)]) ::
   (8 ≤ at16 (List.take (8 + List.length (List.take (at16 (List.take 9 ys1) 4 - 8) (List.take (at16 (List.take 9 ys1) 4 - 8) (List.drop 8 (List.take 9 ys1))))) ys2) 4) ::
   (at16 (List.take (8 + List.length (List.take (at16 (List.take 9 ys1) 4 - 8) (List.take (at16 (List.take 9 ys1) 4 - 8) (List.drop 8 (List.take 9 ys1))))) ys2) 4 ≤ List.length (List.take (8 + List.length (List.take (at16 (List.take 9 ys1) 4 - 8) (List.take (at16 (List.take 9 ys1) 4 - 8) (List.drop 8 (List.take 9 ys1))))) ys2)) ::
   (List.length (List.take (8 + List.length (List.take (at16 (List.take 9 ys1) 4 - 8) (List.take (at16 (List.take 9 ys1) 4 - 8) (List.drop 8 (List.take 9 ys1))))) ys2) ≤ 100000) ::
   (at16 (List.take (8 + List.length (List.take (at16 (List.take 9 ys1) 4 - 8) (List.take (at16 (List.take 9 ys1) 4 - 8) (List.drop 8 (List.take 9 ys1))))) ys2) 6 = 0 ∨ ofL (psd (17 : Int) (203 : Int) (0 : Int) (113 : Int) (7 : Int) (8 : Int) (8 : Int) (IntKind.wrap IntKind.u8 (Int.fdiv (x 0) (256 : Int))) (IntKind.wrap IntKind.u8 (x 0)) (↑(at16 (List.take (8 + List.length (List.take (at16 (List.take 9 ys1) 4 - 8) (List.take (at16 (List.take 9 ys1) 4 - 8) (List.drop 8 (List.take 9 ys1))))) ys2) 4) : Int) (List.take (at16 (List.take (8 + List.length (List.take (at16 (List.take 9 ys1) 4 - 8) (List.take (at16 (List.take 9 ys1) 4 - 8) (List.drop 8 (List.take 9 ys1))))) ys2) 4) (List.take (8 + List.length (List.take (at16 (List.take 9 ys1) 4 - 8) (List.take (at16 (List.take 9 ys1) 4 - 8) (List.drop 8 (List.take 9 ys1))))) ys2))) = 0) ::
   (0 ≤ 0) ::
   (0 + (8 + List.length (List.take (at16 (List.take 9 ys3) 4 - 8) (List.take (at16 (List.take 9 ys3) 4 - 8) (List.drop 8 (List.take 9 ys3))))) ≤ List.length ys4) ::
   ((17 : Int) = (17 : Int)) ::
   rp 2 ((0 : Int) = (0 : Int)) (
   (byteP [(203 : Int), (0 : Int), (113 : Int), (7 : Int), (8 : Int), (8 : Int), IntKind.wrap IntKind.u8 (Int.fdiv (x 0) (256 : Int)), IntKind.wrap IntKind.u8 (x 0)]) ::
   (8 ≤ at16 (List.take (8 + List.length (List.take (at16 (List.take 9 ys3) 4 - 8) (List.take (at16 (List.take 9 ys3) 4 - 8) (List.drop 8 (List.take 9 ys3))))) ys4) 4) ::
   (at16 (List.take (8 + List.length (List.take (at16 (List.take 9 ys3) 4 - 8) (List.take (at16 (List.take 9 ys3) 4 - 8) (List.drop 8 (List.take 9 ys3))))) ys4) 4 ≤ List.length (List.take (8 + List.length (List.take (at16 (List.take 9 ys3) 4 - 8) (List.take (at16 (List.take 9 ys3) 4 - 8) (List.drop 8 (List.take 9 ys3))))) ys4)) ::
   (List.length (List.take (8 + List.length (List.take (at16 (List.take 9 ys3) 4 - 8) (List.take (at16 (List.take 9 ys3) 4 - 8) (List.drop 8 (List.take 9 ys3))))) ys4) ≤ 100000) ::
   (at16 (List.take (8 + List.length (List.take (at16 (List.take 9 ys3) 4 - 8) (List.take (at16 (List.take 9 ys3) 4 - 8) (List.drop 8 (List.take 9 ys3))))) ys4) 6 = 0 ∨ ofL (psd (17 : Int) (203 : Int) (0 : Int) (113 : Int) (7 : Int) (8 : Int) (8 : Int) (IntKind.wrap IntKind.u8 (Int.fdiv (x 0) (256 : Int))) (IntKind.wrap IntKind.u8 (x 0)) (↑(at16 (List.take (8 + List.length (List.take (at16 (List.take 9 ys3) 4 - 8) (List.take (at16 (List.take 9 ys3) 4 - 8) (List.drop 8 (List.take 9 ys3))))) ys4) 4) : Int) (List.take (at16 (List.take (8 + List.length (List.take (at16 (List.take 9 ys3) 4 - 8) (List.take (at16 (List.take 9 ys3) 4 - 8) (List.drop 8 (List.take 9 ys3))))) ys4) 4) (List.take (8 + List.length (List.take (at16 (List.take 9 ys3) 4 - 8) (List.take (at16 (List.take 9 ys3) 4 - 8) (List.drop 8 (List.take 9 ys3))))) ys4))) = 0) ::
   rp 5 (((↑(at16 (List.take (8 + List.length (List.take (at16 (List.take 9 ys1) 4 - 8) (List.take (at16 (List.take 9 ys1) 4 - 8) (List.drop 8 (List.take 9 ys1))))) ys2) 0) : Int) == (↑(at16 (List.take (8 + List.length (List.take (at16 (List.take 9 ys3) 4 - 8) (List.take (at16 (List.take 9 ys3) 4 - 8) (List.drop 8 (List.take 9 ys3))))) ys4) 0) : Int)) = false) (
   (AV.val (Value.int IntKind.i64 a) = AV.val (Value.int IntKind.i64 a)) ::
   (AV.val (Value.int IntKind.i64 b) = AV.val (Value.int IntKind.i64 b)) ::
   (AV.val (Value.int IntKind.i64 port) = AV.val (Value.int IntKind.i64 port)) ::
   ((AV.view 1 n fun k => [AV.val (Value.int IntKind.i64 (x k))]) = AV.view 1 n fun i => [AV.val (Value.int IntKind.i64 (x i))]) ::
   (AV.val (Value.int IntKind.i64 (↑(at16 (List.take (8 + List.length (List.take (at16 (List.take 9 ys1) 4 - 8) (List.take (at16 (List.take 9 ys1) 4 - 8) (List.drop 8 (List.take 9 ys1))))) ys2) 0) : Int)) = AV.val (Value.int IntKind.i64 (40000 : Int))) ::
   (AV.val (Value.int IntKind.i64 (↑(at16 (List.take (8 + List.length (List.take (at16 (List.take 9 ys3) 4 - 8) (List.take (at16 (List.take 9 ys3) 4 - 8) (List.drop 8 (List.take 9 ys3))))) ys4) 0) : Int)) = AV.val (Value.int IntKind.i64 (40001 : Int))) ::
   (AV.val (Value.int IntKind.i64 (1 : Int)) = AV.val (Value.int IntKind.i64 (1 : Int))) ::
   (SameO (some { t := 65, sz := 9, exact := false, fz := false, body := Body.rows [[AV.val (Value.int IntKind.i64 (17 : Int)), AV.val (Value.int IntKind.i64 (↑(at16 (List.take 9 ys1) 0) : Int)), AV.val (Value.int IntKind.u8 (10 : Int)), AV.val (Value.int IntKind.u8 (0 : Int)), AV.val (Value.int IntKind.u8 (0 : Int)), AV.val (Value.int IntKind.u8 (IntKind.wrap IntKind.u8 a)), AV.val (Value.int IntKind.i64 (↑(at16 (List.take 9 ys1) 0) : Int)), AV.val (Value.int IntKind.i64 (1 : Int)), AV.val (Value.int IntKind.i64 (120 : Int))], [AV.val (Value.int IntKind.i64 (17 : Int)), AV.val (Value.int IntKind.i64 (40001 : Int)), AV.val (Value.int IntKind.u8 (10 : Int)), AV.val (Value.int IntKind.u8 (0 : Int)), AV.val (Value.int IntKind.u8 (0 : Int)), AV.val (Value.int IntKind.u8 (IntKind.wrap IntKind.u8 b)), AV.val (Value.int IntKind.i64 (↑(at16 (List.take 9 ys3) 0) : Int)), AV.val (Value.int IntKind.i64 (1 : Int)), AV.val (Value.int IntKind.i64 (120 : Int))]] }) { t := 65, sz := 9, exact := false, fz := false, body := Body.rows [[AV.val (Value.int IntKind.i64 (17 : Int)), AV.val (Value.int IntKind.i64 (40000 : Int)), AV.val (Value.int IntKind.u8 (10 : Int)), AV.val (Value.int IntKind.u8 (0 : Int)), AV.val (Value.int IntKind.u8 (0 : Int)), AV.val (Value.int IntKind.u8 (IntKind.wrap IntKind.u8 a)), AV.val (Value.int IntKind.i64 port), AV.val (Value.int IntKind.i64 (1 : Int)), AV.val (Value.int IntKind.i64 (120 : Int))], [AV.val (Value.int IntKind.i64 (17 : Int)), AV.val (Value.int IntKind.i64 (40001 : Int)), AV.val (Value.int IntKind.u8 (10 : Int)), AV.val (Value.int IntKind.u8 (0 : Int)), AV.val (Value.int IntKind.u8 (0 : Int)), AV.val (Value.int IntKind.u8 (IntKind.wrap IntKind.u8 b)), AV.val (Value.int IntKind.i64 port), AV.val (Value.int IntKind.i64 (1 : Int)), AV.val (Value.int IntKind.i64 (120 : Int))]] }) :: [])))))))))))))))))) := by kernel_rfl

set_option maxRecDepth 100000 in
theorem ends_hi (a : Int) (b : Int) (port : Int) (n : Nat) (x : Nat → Int) (ys1 : List UInt8) (ys2 : List UInt8) (ys3 : List UInt8) (ys4 : List UInt8) : stepXS kU [(724000093, { ob := [(4, 5)] }),
   (25, { ob := [(1, 1), (5, 4)] }),
   (737000094, { op := [(1, 8, .as (.c (.c (.eq (.val (.bool true))))))] }),
   (81, { op := [(3, 12, .br false), (10, 2, .keep)], gd := [(3, 10, false), (3, 11, false)], ob := [(1, 2), (5, 3), (10, 2), (12, 3)] }),
   (48, { br := [(23, false)], ob := [(1, 1), (10, 2)] }),
   (10, { op := [(15, 36, .br false), (11, 5, .cut 58 (ys1)), (11, 7, .cut 384 (ys2)), (12, 5, .cut 423 (ys3)), (12, 7, .cut 931 (ys4))], gd := [(15, 22, false), (15, 23, false), (15, 24, false), (15, 35, false)], br := [(64, true)], ob := [(10, 2), (10, 8), (11, 7), (12, 7), (13, 1), (14, 1)] }),
   (105, { op := [(1, 14, .keep), (1, 16, .br true)], gd := [(1, 8, true), (1, 9, true), (1, 10, true), (1, 11, true), (1, 12, true), (1, 13, true), (1, 14, true), (1, 15, true)], ob := [(1, 14), (6, 5)] }),
   (104, { op := [(5, 18, .br true)], gd := [(5, 13, true), (5, 14, true), (5, 15, true), (5, 16, true), (5, 17, true)] }),
   (807000094, { op := [(1, 8, .as (.c (.c (.eq (.val (.bool false))))))] }),
   (866000093, { br := [(16, false)], ob := [(4, 5)] }),
   (66, { ob := [(1, 6)] }),
   (97, { ob := [(1, 2)] }),
   (64, { ob := [(1, 5)] }),
   (96, { op := [(1, 7, .br true)], gd := [(1, 4, true), (1, 5, true), (1, 6, true)] })] Try.prog 10 8 (ndG0 a b port n x) (ndG1 a b port n x port (40000 : Int) 1) [0, 1, 2, 908] 0 [] =
   some (.normal,
   (decide ((0 : Int) < (↑n : Int)) = true) ::
   rp 2 ((0 : Int) ≤ (0 : Int) ∧ (0 : Int) < (↑n : Int)) (
   rp 2 (True) (
   (1 ≤ 1) ::
   (byteP [(10 : Int), (0 : Int), (0 : Int), IntKind.wrap IntKind.u8 a, (8 : Int), (8 : Int), IntKind.wrap IntKind.u8 (Int.fdiv (x 0) (256 : Int)), IntKind.wrap IntKind.u8 (x 0)]) ::
   ((0 : Int) ≤ port ∧ port ≤ (65535 : Int)) ::
   ((0 : Int) ≤ (53 : Int) ∧ (53 : Int) ≤ (65535 : Int)) ::
   (1 ≤ 1472) ::
   (0 ≤ 100000) ::
   (udpP (10 : Int) (0 : Int) (0 : Int) (IntKind.wrap IntKind.u8 a) (8 : Int) (8 : Int) (IntKind.wrap IntKind.u8 (Int.fdiv (x 0) (256 : Int))) (IntKind.wrap IntKind.u8 (x 0)) port (53 : Int) [(120 : UInt8)] = ys1) ::
   (0 ≤ 0) ::
   (9 ≤ List.length ys1) ::
   ((17 : Int) = (17 : Int)) ::
   rp 2 ((0 : Int) = (0 : Int)) (
   (byteP [(10 : Int), (0 : Int), (0 : Int), IntKind.wrap IntKind.u8 a, (8 : Int), (8 : Int), IntKind.wrap IntKind.u8 (Int.fdiv (x 0) (256 : Int)), IntKind.wrap IntKind.u8 (x 0)]) ::
   (8 ≤ at16 (List.take 9 ys1) 4) ::
   (at16 (List.take 9 ys1) 4 ≤ List.length (List.take 9 ys1)) ::
   (List.length (List.take 9 ys1) ≤ 100000) ::
   (at16 (List.take 9 ys1) 6 = 0 ∨ ofL (psd (17 : Int) (10 : Int) (0 : Int) (0 : Int) (IntKind.wrap IntKind.u8 a) (8 : Int) (8 : Int) (IntKind.wrap IntKind.u8 (Int.fdiv (x 0) (256 : Int))) (IntKind.wrap IntKind.u8 (x 0)) (↑(at16 (List.take 9 ys1) 4) : Int) (List.take (at16 (List.take 9 ys1) 4) (List.take 9 ys1))) = 0) ::
   (((↑(at16 (List.take 9 ys1) 0) : Int) == (0 : Int)) = false) ::
   rp 4 (decide ((↑(at16 (List.take 9 ys1) 0) : Int) ≥ (1 : Int)) = true) (
   rp 3 ((!decide ((↑(at16 (List.take 9 ys1) 0) : Int) ≤ (65535 : Int))) = false) (
   (SameO (some { t := 109, sz := 4, exact := true, fz := false, body := Body.rows [[AV.val (Value.int IntKind.i64 (40000 : Int)), AV.val (Value.int IntKind.i64 (128 : Int)), AV.val (Value.int IntKind.i64 (0 : Int)), AV.val (Value.slice none 0 0)]] }) { t := 109, sz := 4, exact := true, fz := false, body := Body.rows [[AV.val (Value.int IntKind.i64 (40000 : Int)), AV.val (Value.int IntKind.i64 (128 : Int)), AV.val (Value.int IntKind.i64 (0 : Int)), AV.val (Value.slice none 0 0)]] }) ::
   rp 7 (decide ((↑(at16 (List.take 9 ys1) 0) : Int) ≥ (40000 : Int)) = true) (
   (SameO (some { t := 109, sz := 4, exact := true, fz := false, body := Body.rows [[AV.val (Value.int IntKind.i64 (40000 : Int)), AV.val (Value.int IntKind.i64 (128 : Int)), AV.val (Value.int IntKind.i64 (0 : Int)), AV.val (Value.slice none 0 0)]] }) { t := 109, sz := 4, exact := true, fz := false, body := Body.rows [[AV.val (Value.int IntKind.i64 (40000 : Int)), AV.val (Value.int IntKind.i64 (128 : Int)), AV.val (Value.int IntKind.i64 (0 : Int)), AV.val (Value.slice none 0 0)]] }) ::
   rp 2 (decide ((↑(at16 (List.take 9 ys1) 0) : Int) ≥ (40000 : Int)) = true) (
   (0 ≤ 0) ::
   (9 ≤ List.length ys1) ::
   (0 + (at16 (List.take 9 ys1) 4 - 8) ≤ List.length (List.take (at16 (List.take 9 ys1) 4 - 8) (List.drop 8 (List.take 9 ys1)))) ::
   (byteP [(203 : Int), (0 : Int), (113 : Int), (7 : Int), (8 : Int), (8 : Int), IntKind.wrap IntKind.u8 (Int.fdiv (x 0) (256 : Int)), IntKind.wrap IntKind.u8 (x 0)]) ::
   ((0 : Int) ≤ (↑(at16 (List.take 9 ys1) 0) : Int) ∧ (↑(at16 (List.take 9 ys1) 0) : Int) ≤ (65535 : Int)) ::
   ((0 : Int) ≤ (↑(at16 (List.take 9 ys1) 2) : Int) ∧ (↑(at16 (List.take 9 ys1) 2) : Int) ≤ (65535 : Int)) ::
   (List.length (List.take (at16 (List.take 9 ys1) 4 - 8) (List.take (at16 (List.take 9 ys1) 4 - 8) (List.drop 8 (List.take 9 ys1)))) ≤ 1472) ::
   (0 ≤ 100000) ::
   (udpP (203 : Int) (0 : Int) (113 : Int) (7 : Int) (8 : Int) (8 : Int) (IntKind.wrap IntKind.u8 (Int.fdiv (x 0) (256 : Int))) (IntKind.wrap IntKind.u8 (x 0)) (↑(at16 (List.take 9 ys1) 0) : Int) (↑(at16 (List.take 9 ys1) 2) : Int) (List.take (at16 (List.take 9 ys1) 4 - 8) (List.take (at16 (List.take 9 ys1) 4 - 8) (List.drop 8 (List.take 9 ys1)))) = ys2) ::
   rp 2 (True) (
   (1 ≤ 1) ::
   (byteP [(10 : Int), (0 : Int), (0 : Int), IntKind.wrap IntKind.u8 b, (8 : Int), (8 : Int), IntKind.wrap IntKind.u8 (Int.fdiv (x 0) (256 : Int)), IntKind.wrap IntKind.u8 (x 0)]) ::
   ((0 : Int) ≤ port ∧ port ≤ (65535 : Int)) ::
   ((0 : Int) ≤ (53 : Int) ∧ (53 : Int) ≤ (65535 : Int)) ::
   (1 ≤ 1472) ::
   (0 ≤ 100000) ::
   (udpP (10 : Int) (0 : Int) (0 : Int) (IntKind.wrap IntKind.u8 b) (8 : Int) (8 : Int) (IntKind.wrap IntKind.u8 (Int.fdiv (x 0) (256 : Int))) (IntKind.wrap IntKind.u8 (x 0)) port (53 : Int) [(120 : UInt8)] = ys3) ::
   (0 ≤ 0) ::
   (9 ≤ List.length ys3) ::
   ((17 : Int) = (17 : Int)) ::
   rp 2 ((0 : Int) = (0 : Int)) (
   (byteP [(10 : Int), (0 : Int), (0 : Int), IntKind.wrap IntKind.u8 b, (8 : Int), (8 : Int), IntKind.wrap IntKind.u8 (Int.fdiv (x 0) (256 : Int)), IntKind.wrap IntKind.u8 (x 0)]) ::
   (8 ≤ at16 (List.take 9 ys3) 4) ::
   (at16 (List.take 9 ys3) 4 ≤ List.length (List.take 9 ys3)) ::
   (List.length (List.take 9 ys3) ≤ 100000) ::
   (at16 (List.take 9 ys3) 6 = 0 ∨ ofL (psd (17 : Int) (10 : Int) (0 : Int) (0 : Int) (IntKind.wrap IntKind.u8 b) (8 : Int) (8 : Int) (IntKind.wrap IntKind.u8 (Int.fdiv (x 0) (256 : Int))) (IntKind.wrap IntKind.u8 (x 0)) (↑(at16 (List.take 9 ys3) 4) : Int) (List.take (at16 (List.take 9 ys3) 4) (List.take 9 ys3))) = 0) ::
   (((↑(at16 (List.take 9 ys3) 0) : Int) == (0 : Int)) = false) ::
   rp 4 (decide ((↑(at16 (List.take 9 ys3) 0) : Int) ≥ (1 : Int)) = true) (
   rp 3 ((!decide ((↑(at16 (List.take 9 ys3) 0) : Int) ≤ (65535 : Int))) = false) (
   rp 6 ((!(true && (true && (true && (IntKind.wrap IntKind.u8 a == IntKind.wrap IntKind.u8 b && true))))) = true) (
   (SameO (some { t := 65, sz := 9, exact := false, fz := false, body := Body.rows [[AV.val (Value.int IntKind.i64 (17 : Int)), AV.val (Value.int IntKind.i64 (↑(at16 (List.take 9 ys1) 0) : Int)), AV.val (Value.int IntKind.u8 (10 : Int)), AV.val (Value.int IntKind.u8 (0 : Int)), AV.val (Value.int IntKind.u8 (0 : Int)), AV.val (Value.int IntKind.u8 (IntKind.wrap IntKind.u8 a)), AV.val (Value.int IntKind.i64 (↑(at16 (List.take 9 ys1) 0) : Int)), AV.val (Value.int IntKind.i64 (1 : Int)), AV.val (Value.int IntKind.i64 (120 : Int))]] }) { t := 65, sz := 9, exact := false, fz := false, body := Body.rows [[AV.val (Value.int IntKind.i64 (17 : Int)), AV.val (Value.int IntKind.i64 (↑(at16 (List.take 9 ys1) 0) : Int)), AV.val (Value.int IntKind.u8 (10 : Int)), AV.val (Value.int IntKind.u8 (0 : Int)), AV.val (Value.int IntKind.u8 (0 : Int)), AV.val (Value.int IntKind.u8 (IntKind.wrap IntKind.u8 a)), AV.val (Value.int IntKind.i64 (↑(at16 (List.take 9 ys1) 0) : Int)), AV.val (Value.int IntKind.i64 (1 : Int)), AV.val (Value.int IntKind.i64 (120 : Int))]] }) ::
   (SameO (some { t := 109, sz := 4, exact := true, fz := false, body := Body.rows [[AV.val (Value.int IntKind.i64 (40000 : Int)), AV.val (Value.int IntKind.i64 (128 : Int)), AV.val (Value.int IntKind.i64 (0 : Int)), AV.sl 361 0 1 none]] }) { t := 109, sz := 4, exact := true, fz := false, body := Body.rows [[AV.val (Value.int IntKind.i64 (40000 : Int)), AV.val (Value.int IntKind.i64 (128 : Int)), AV.val (Value.int IntKind.i64 (0 : Int)), AV.sl 361 0 1 none]] }) ::
   rp 7 (decide ((↑(at16 (List.take 9 ys3) 0) : Int) ≥ (40000 : Int)) = true) (
   (AV.val (Value.bool ((↑(at16 (List.take 9 ys1) 0) : Int) == (↑(at16 (List.take 9 ys3) 0) : Int))) = AV.val (Value.bool true)) ::
   (SameO (some { t := 65, sz := 9, exact := false, fz := false, body := Body.rows [[AV.val (Value.int IntKind.i64 (17 : Int)), AV.val (Value.int IntKind.i64 (↑(at16 (List.take 9 ys1) 0) : Int)), AV.val (Value.int IntKind.u8 (10 : Int)), AV.val (Value.int IntKind.u8 (0 : Int)), AV.val (Value.int IntKind.u8 (0 : Int)), AV.val (Value.int IntKind.u8 (IntKind.wrap IntKind.u8 a)), AV.val (Value.int IntKind.i64 (↑(at16 (List.take 9 ys1) 0) : Int)), AV.val (Value.int IntKind.i64 (1 : Int)), AV.val (Value.int IntKind.i64 (120 : Int))]] }) { t := 65, sz := 9, exact := false, fz := false, body := Body.rows [[AV.val (Value.int IntKind.i64 (17 : Int)), AV.val (Value.int IntKind.i64 (↑(at16 (List.take 9 ys1) 0) : Int)), AV.val (Value.int IntKind.u8 (10 : Int)), AV.val (Value.int IntKind.u8 (0 : Int)), AV.val (Value.int IntKind.u8 (0 : Int)), AV.val (Value.int IntKind.u8 (IntKind.wrap IntKind.u8 a)), AV.val (Value.int IntKind.i64 (↑(at16 (List.take 9 ys1) 0) : Int)), AV.val (Value.int IntKind.i64 (1 : Int)), AV.val (Value.int IntKind.i64 (120 : Int))]] }) ::
   (SameO (some { t := 109, sz := 4, exact := true, fz := false, body := Body.rows [[AV.val (Value.int IntKind.i64 (40000 : Int)), AV.val (Value.int IntKind.i64 (128 : Int)), AV.val (Value.int IntKind.i64 (0 : Int)), AV.sl 361 0 1 none]] }) { t := 109, sz := 4, exact := true, fz := false, body := Body.rows [[AV.val (Value.int IntKind.i64 (40000 : Int)), AV.val (Value.int IntKind.i64 (128 : Int)), AV.val (Value.int IntKind.i64 (0 : Int)), AV.sl 361 0 1 none]] }) ::
   rp 2 (decide ((↑(at16 (List.take 9 ys3) 0) : Int) ≥ (40000 : Int)) = true) (
   (AV.val (Value.bool ((↑(at16 (List.take 9 ys1) 0) : Int) == (40000 : Int))) = AV.val (Value.bool false)) ::
   (((↑(at16 (List.take 9 ys1) 0) : Int) == (40000 : Int)) = false) ::
   (0 ≤ 0) ::
   (9 ≤ List.length ys3) ::
   (0 + (at16 (List.take 9 ys3) 4 - 8) ≤ List.length (List.take (at16 (List.take 9 ys3) 4 - 8) (List.drop 8 (List.take 9 ys3)))) ::
   (byteP [(203 : Int), (0 : Int), (113 : Int), (7 : Int), (8 : Int), (8 : Int), IntKind.wrap IntKind.u8 (Int.fdiv (x 0) (256 : Int)), IntKind.wrap IntKind.u8 (x 0)]) ::
   ((0 : Int) ≤ (40000 : Int) ∧ (40000 : Int) ≤ (65535 : Int)) ::
   ((0 : Int) ≤ (↑(at16 (List.take 9 ys3) 2) : Int) ∧ (↑(at16 (List.take 9 ys3) 2) : Int) ≤ (65535 : Int)) ::
   (List.length (List.take (at16 (List.take 9 ys3) 4 - 8) (List.take (at16 (List.take 9 ys3) 4 - 8) (List.drop 8 (List.take 9 ys3)))) ≤ 1472) ::
   (0 ≤ 100000) ::
   (udpP (203 : Int) (0 : Int) (113 : Int) (7 : Int) (8 : Int) (8 : Int) (IntKind.wrap IntKind.u8 (Int.fdiv (x 0) (256 : Int))) (IntKind.wrap IntKind.u8 (x 0)) (40000 : Int) (↑(at16 (List.take 9 ys3) 2) : Int) (List.take (at16 (List.take 9 ys3) 4 - 8) (List.take (at16 (List.take 9 ys3) 4 - 8) (List.drop 8 (List.take 9 ys3)))) = ys4) ::
   (0 ≤ 0) ::
   (0 + (8 + List.length (List.take (at16 (List.take 9 ys1) 4 - 8) (List.take (at16 (List.take 9 ys1) 4 - 8) (List.drop 8 (List.take 9 ys1))))) ≤ List.length ys2) ::
   ((17 : Int) = (17 : Int)) ::
   rp 2 ((0 : Int) = (0 : Int)) (
   (byteP [(203 : Int), (0 : Int), (113 : Int), (7 : Int), (8 : Int), (8 : Int), IntKind.wrap IntKind.u8 (Int.fdiv (x 0) (256 : Int)), IntKind.wrap IntKind.u8 (x 0)]) ::
   (8 ≤ at16 (List.take (8 + List.length (List.take (at16 (List.take 9 ys1) 4 - 8) (List.take (at16 (List.take 9 ys1) 4 - 8) (List.drop 8 (List.take 9 ys1))))) ys2) 4) ::
   (at16 (List.take (8 + List.length (List.take (at16 (List.take 9 ys1) 4 - 8) (List.take (at16 (List.take 9 ys1) 4 - 8) (List.drop 8 (List.take 9 ys1))))) ys2) 4 ≤ List.length (List.take (8 + List.length (List.take (at16 (List.take 9 ys1) 4 - 8) (List.take (at16 (List.take 9 ys1) 4 - 8) (List.drop 8 (List.take 9 ys1))))) ys2)) ::
   (List.length (List.take (8 + List.length (List.take (at16 (List.take 9 ys1) 4 - 8) (List.take (at16 (List.take 9 ys1) 4 - 8) (List.drop 8 (List.take 9 ys1))))) ys2) ≤ 100000) ::
   (at16 (List.take (8 + List.length (List.take (at16 (List.take 9 ys1) 4 - 8) (List.take (at16 (List.take 9 ys1) 4 - 8) (List.drop 8 (List.take 9 ys1))))) ys2) 6 = 0 ∨ ofL (psd (17 : Int) (203 : Int) (0 : Int) (113 : Int) (7 : Int) (8 : Int) (8 : Int) (IntKind.wrap IntKind.u8 (Int.fdiv (x 0) (256 : Int))) (IntKind.wrap IntKind.u8 (x 0)) (↑(at16 (List.take (8 + List.length (List.take (at16 (List.take 9 ys1) 4 - 8) (List.take (at16 (List.take 9 ys1) 4 - 8) (List.drop 8 (List.take 9 ys1))))) ys2) 4) : Int) (List.take (at16 (List.take (8 + List.length (List.take (at16 (List.take 9 ys1) 4 - 8) (List.take (at16 (List.take 9 ys1) 4 - 8) (List.drop 8 (List.take 9 ys1))))) ys2) 4) (List.take (8 + List.length (List.take (at16 (List.take 9 ys1) 4 - 8) (List.take (at16 (List.take 9 ys1) 4 - 8) (List.drop 8 (List.take 9 ys1))))) ys2))) = 0) ::
   (0 ≤ 0) ::
   (0 + (8 + List.length (List.take (at16 (List.take 9 ys3) 4 - 8) (List.take (at16 (List.take 9 ys3) 4 - 8) (List.drop 8 (List.take 9 ys3))))) ≤ List.length ys4) ::
   ((17 : Int) = (17 : Int)) ::
   rp 2 ((0 : Int) = (0 : Int)) (
   (byteP [(203 : Int), (0 : Int), (113 : Int), (7 : Int), (8 : Int), (8 : Int), IntKind.wrap IntKind.u8 (Int.fdiv (x 0) (256 : Int)), IntKind.wrap IntKind.u8 (x 0)]) ::
   (8 ≤ at16 (List.take (8 + List.length (List.take (at16 (List.take 9 ys3) 4 - 8) (List.take (at16 (List.take 9 ys3) 4 - 8) (List.drop 8 (List.take 9 ys3))))) ys4) 4) ::
   (at16 (List.take (8 + List.length (List.take (at16 (List.take 9 ys3) 4 - 8) (List.take (at16 (List.take 9 ys3) 4 - 8) (List.drop 8 (List.take 9 ys3))))) ys4) 4 ≤ List.length (List.take (8 + List.length (List.take (at16 (List.take 9 ys3) 4 - 8) (List.take (at16 (List.take 9 ys3) 4 - 8) (List.drop 8 (List.take 9 ys3))))) ys4)) ::
   (List.length (List.take (8 + List.length (List.take (at16 (List.take 9 ys3) 4 - 8) (List.take (at16 (List.take 9 ys3) 4 - 8) (List.drop 8 (List.take 9 ys3))))) ys4) ≤ 100000) ::
   (at16 (List.take (8 + List.length (List.take (at16 (List.take 9 ys3) 4 - 8) (List.take (at16 (List.take 9 ys3) 4 - 8) (List.drop 8 (List.take 9 ys3))))) ys4) 6 = 0 ∨ ofL (psd (17 : Int) (203 : Int) (0 : Int) (113 : Int) (7 : Int) (8 : Int) (8 : Int) (IntKind.wrap IntKind.u8 (Int.fdiv (x 0) (256 : Int))) (IntKind.wrap IntKind.u8 (x 0)) (↑(at16 (List.take (8 + List.length (List.take (at16 (List.take 9 ys3) 4 - 8) (List.take (at16 (List.take 9 ys3) 4 - 8) (List.drop 8 (List.take 9 ys3))))) ys4) 4) : Int) (List.take (at16 (List.take (8 + List.length (List.take (at16 (List.take 9 ys3) 4 - 8) (List.take (at16 (List.take 9 ys3) 4 - 8) (List.drop 8 (List.take 9 ys3))))) ys4) 4) (List.take (8 + List.length (List.take (at16 (List.take 9 ys3) 4 - 8) (List.take (at16 (List.take 9 ys3) 4 - 8) (List.drop 8 (List.take 9 ys3))))) ys4))) = 0) ::
   rp 5 (((↑(at16 (List.take (8 + List.length (List.take (at16 (List.take 9 ys1) 4 - 8) (List.take (at16 (List.take 9 ys1) 4 - 8) (List.drop 8 (List.take 9 ys1))))) ys2) 0) : Int) == (↑(at16 (List.take (8 + List.length (List.take (at16 (List.take 9 ys3) 4 - 8) (List.take (at16 (List.take 9 ys3) 4 - 8) (List.drop 8 (List.take 9 ys3))))) ys4) 0) : Int)) = false) (
   (AV.val (Value.int IntKind.i64 a) = AV.val (Value.int IntKind.i64 a)) ::
   (AV.val (Value.int IntKind.i64 b) = AV.val (Value.int IntKind.i64 b)) ::
   (AV.val (Value.int IntKind.i64 port) = AV.val (Value.int IntKind.i64 port)) ::
   ((AV.view 1 n fun k => [AV.val (Value.int IntKind.i64 (x k))]) = AV.view 1 n fun i => [AV.val (Value.int IntKind.i64 (x i))]) ::
   (AV.val (Value.int IntKind.i64 (↑(at16 (List.take (8 + List.length (List.take (at16 (List.take 9 ys1) 4 - 8) (List.take (at16 (List.take 9 ys1) 4 - 8) (List.drop 8 (List.take 9 ys1))))) ys2) 0) : Int)) = AV.val (Value.int IntKind.i64 port)) ::
   (AV.val (Value.int IntKind.i64 (↑(at16 (List.take (8 + List.length (List.take (at16 (List.take 9 ys3) 4 - 8) (List.take (at16 (List.take 9 ys3) 4 - 8) (List.drop 8 (List.take 9 ys3))))) ys4) 0) : Int)) = AV.val (Value.int IntKind.i64 (40000 : Int))) ::
   (AV.val (Value.int IntKind.i64 (1 : Int)) = AV.val (Value.int IntKind.i64 (1 : Int))) ::
   (SameO (some { t := 65, sz := 9, exact := false, fz := false, body := Body.rows [[AV.val (Value.int IntKind.i64 (17 : Int)), AV.val (Value.int IntKind.i64 (↑(at16 (List.take 9 ys1) 0) : Int)), AV.val (Value.int IntKind.u8 (10 : Int)), AV.val (Value.int IntKind.u8 (0 : Int)), AV.val (Value.int IntKind.u8 (0 : Int)), AV.val (Value.int IntKind.u8 (IntKind.wrap IntKind.u8 a)), AV.val (Value.int IntKind.i64 (↑(at16 (List.take 9 ys1) 0) : Int)), AV.val (Value.int IntKind.i64 (1 : Int)), AV.val (Value.int IntKind.i64 (120 : Int))], [AV.val (Value.int IntKind.i64 (17 : Int)), AV.val (Value.int IntKind.i64 (40000 : Int)), AV.val (Value.int IntKind.u8 (10 : Int)), AV.val (Value.int IntKind.u8 (0 : Int)), AV.val (Value.int IntKind.u8 (0 : Int)), AV.val (Value.int IntKind.u8 (IntKind.wrap IntKind.u8 b)), AV.val (Value.int IntKind.i64 (↑(at16 (List.take 9 ys3) 0) : Int)), AV.val (Value.int IntKind.i64 (1 : Int)), AV.val (Value.int IntKind.i64 (120 : Int))]] }) { t := 65, sz := 9, exact := false, fz := false, body := Body.rows [[AV.val (Value.int IntKind.i64 (17 : Int)), AV.val (Value.int IntKind.i64 port), AV.val (Value.int IntKind.u8 (10 : Int)), AV.val (Value.int IntKind.u8 (0 : Int)), AV.val (Value.int IntKind.u8 (0 : Int)), AV.val (Value.int IntKind.u8 (IntKind.wrap IntKind.u8 a)), AV.val (Value.int IntKind.i64 port), AV.val (Value.int IntKind.i64 (1 : Int)), AV.val (Value.int IntKind.i64 (120 : Int))], [AV.val (Value.int IntKind.i64 (17 : Int)), AV.val (Value.int IntKind.i64 (40000 : Int)), AV.val (Value.int IntKind.u8 (10 : Int)), AV.val (Value.int IntKind.u8 (0 : Int)), AV.val (Value.int IntKind.u8 (0 : Int)), AV.val (Value.int IntKind.u8 (IntKind.wrap IntKind.u8 b)), AV.val (Value.int IntKind.i64 port), AV.val (Value.int IntKind.i64 (1 : Int)), AV.val (Value.int IntKind.i64 (120 : Int))]] }) :: [])))))))))))))))))) := by kernel_rfl

set_option maxRecDepth 100000 in
theorem ends_end0 (a : Int) (b : Int) (port : Int) (n : Nat) (x : Nat → Int) : stepXS kU [(10, { br := [(64, false)] })] Try.prog 10 8 (ndG0 a b port n x) (ndE0 n x) [0, 1, 2] 0 [] =
   some (.exit 0,
   (decide ((0 : Int) < (↑n : Int)) = false) ::
   ((AV.view 1 n fun k => [AV.val (Value.int IntKind.i64 (x k))]) = AV.view 1 n fun i => [AV.val (Value.int IntKind.i64 (x i))]) :: []) := by kernel_rfl

set_option maxRecDepth 100000 in
theorem ends_end1 (a : Int) (b : Int) (port : Int) (n : Nat) (x : Nat → Int) (c : Int) (d : Int) (i : Nat) : stepXS kU [(10, { br := [(64, false)] })] Try.prog 10 8 (ndG1 a b port n x c d i) (ndE1 a b port n x c d) [0, 1, 2, 3] 0 [] =
   some (.exit 0,
   (decide ((↑i : Int) < (↑n : Int)) = false) ::
   ((AV.view 1 n fun k => [AV.val (Value.int IntKind.i64 (x k))]) = AV.view 1 n fun i => [AV.val (Value.int IntKind.i64 (x i))]) ::
   (SameO (some { t := 65, sz := 9, exact := false, fz := false, body := Body.rows [[AV.val (Value.int IntKind.i64 (17 : Int)), AV.val (Value.int IntKind.i64 c), AV.val (Value.int IntKind.u8 (10 : Int)), AV.val (Value.int IntKind.u8 (0 : Int)), AV.val (Value.int IntKind.u8 (0 : Int)), AV.val (Value.int IntKind.u8 (IntKind.wrap IntKind.u8 a)), AV.val (Value.int IntKind.i64 port), AV.val (Value.int IntKind.i64 (1 : Int)), AV.val (Value.int IntKind.i64 (120 : Int))], [AV.val (Value.int IntKind.i64 (17 : Int)), AV.val (Value.int IntKind.i64 d), AV.val (Value.int IntKind.u8 (10 : Int)), AV.val (Value.int IntKind.u8 (0 : Int)), AV.val (Value.int IntKind.u8 (0 : Int)), AV.val (Value.int IntKind.u8 (IntKind.wrap IntKind.u8 b)), AV.val (Value.int IntKind.i64 port), AV.val (Value.int IntKind.i64 (1 : Int)), AV.val (Value.int IntKind.i64 (120 : Int))]] }) { t := 65, sz := 9, exact := false, fz := false, body := Body.rows [[AV.val (Value.int IntKind.i64 (17 : Int)), AV.val (Value.int IntKind.i64 c), AV.val (Value.int IntKind.u8 (10 : Int)), AV.val (Value.int IntKind.u8 (0 : Int)), AV.val (Value.int IntKind.u8 (0 : Int)), AV.val (Value.int IntKind.u8 (IntKind.wrap IntKind.u8 a)), AV.val (Value.int IntKind.i64 port), AV.val (Value.int IntKind.i64 (1 : Int)), AV.val (Value.int IntKind.i64 (120 : Int))], [AV.val (Value.int IntKind.i64 (17 : Int)), AV.val (Value.int IntKind.i64 d), AV.val (Value.int IntKind.u8 (10 : Int)), AV.val (Value.int IntKind.u8 (0 : Int)), AV.val (Value.int IntKind.u8 (0 : Int)), AV.val (Value.int IntKind.u8 (IntKind.wrap IntKind.u8 b)), AV.val (Value.int IntKind.i64 port), AV.val (Value.int IntKind.i64 (1 : Int)), AV.val (Value.int IntKind.i64 (120 : Int))]] }) :: []) := by kernel_rfl
end Go.Proofs.Ytecmagdefllihaa

/- The law NatEnds, a later round. (Printed by wip/tools/gen.py from wip/sym/XSNf.lean.) -/
namespace Go.Proofs.Ytecmagdefllihaa
open Go.RowKit

set_option maxRecDepth 100000 in
theorem ends_next (a : Int) (b : Int) (port : Int) (n : Nat) (x : Nat → Int) (c : Int) (d : Int) (i : Nat) (ys1 : List UInt8) (ys2 : List UInt8) (ys3 : List UInt8) (ys4 : List UInt8) : stepXS (kUO 500) [(10, { op := [(11, 7, .keep), (12, 7, .keep), (15, 34, .br false), (15, 35, .br true), (15, 36, .br false), (11, 5, .cut 59 (ys1)), (12, 5, .cut 513 (ys3))], gd := [(15, 22, false), (15, 23, false), (15, 24, false), (15, 25, true), (15, 26, true), (15, 27, true), (15, 28, true), (15, 29, true), (15, 30, false), (15, 31, false), (15, 32, false), (15, 33, false), (15, 34, true), (15, 35, false)], br := [(64, true), (147, false)], ob := [(10, 2), (10, 8), (11, 7), (12, 7), (13, 1), (14, 1)] }),
   (25, { ob := [(1, 1), (5, 4)] }),
   (81, { op := [(3, 12, .br false)], gd := [(3, 10, false), (3, 11, false)], ob := [(1, 2), (5, 3)] }),
   (48, { op := [(6, 15, .keep)], br := [(23, false)], ob := [(1, 1), (6, 15), (10, 2)] }),
   (96, { op := [(1, 7, .br true)], gd := [(1, 4, true), (1, 5, true), (1, 6, true)] })] Try.prog 10 8 (ndG1 a b port n x c d i) (ndG1 a b port n x c d (i + 1)) [0, 1, 2, 3] 0 [] =
   some (.normal,
   (decide ((↑i : Int) < (↑n : Int)) = true) ::
   rp 2 ((0 : Int) ≤ (↑i : Int) ∧ (↑i : Int) < (↑n : Int)) (
   rp 2 (True) (
   (1 ≤ 1) ::
   (byteP [(10 : Int), (0 : Int), (0 : Int), IntKind.wrap IntKind.u8 a, (8 : Int), (8 : Int), IntKind.wrap IntKind.u8 (Int.fdiv (x i) (256 : Int)), IntKind.wrap IntKind.u8 (x i)]) ::
   ((0 : Int) ≤ port ∧ port ≤ (65535 : Int)) ::
   ((0 : Int) ≤ (53 : Int) ∧ (53 : Int) ≤ (65535 : Int)) ::
   (1 ≤ 1472) ::
   (0 ≤ 100000) ::
   (udpP (10 : Int) (0 : Int) (0 : Int) (IntKind.wrap IntKind.u8 a) (8 : Int) (8 : Int) (IntKind.wrap IntKind.u8 (Int.fdiv (x i) (256 : Int))) (IntKind.wrap IntKind.u8 (x i)) port (53 : Int) [(120 : UInt8)] = ys1) ::
   (0 ≤ 0) ::
   (9 ≤ List.length ys1) ::
   ((17 : Int) = (17 : Int)) ::
   rp 2 ((0 : Int) = (0 : Int)) (
   (byteP [(10 : Int), (0 : Int), (0 : Int), IntKind.wrap IntKind.u8 a, (8 : Int), (8 : Int), IntKind.wrap IntKind.u8 (Int.fdiv (x i) (256 : Int)), IntKind.wrap IntKind.u8 (x i)]) ::
   (8 ≤ at16 (List.take 9 ys1) 4) ::
   (at16 (List.take 9 ys1) 4 ≤ List.length (List.take 9 ys1)) ::
   (List.length (List.take 9 ys1) ≤ 100000) ::
   (at16 (List.take 9 ys1) 6 = 0 ∨ ofL (psd (17 : Int) (10 : Int) (0 : Int) (0 : Int) (IntKind.wrap IntKind.u8 a) (8 : Int) (8 : Int) (IntKind.wrap IntKind.u8 (Int.fdiv (x i) (256 : Int))) (IntKind.wrap IntKind.u8 (x i)) (↑(at16 (List.take 9 ys1) 4) : Int) (List.take (at16 (List.take 9 ys1) 4) (List.take 9 ys1))) = 0) ::
   (((↑(at16 (List.take 9 ys1) 0) : Int) == (0 : Int)) = false) ::
   rp 4 (decide ((↑(at16 (List.take 9 ys1) 0) : Int) ≥ (1 : Int)) = true) (
   rp 3 ((!decide ((↑(at16 (List.take 9 ys1) 0) : Int) ≤ (65535 : Int))) = false) (
   (IntKind.wrap IntKind.u8 a = IntKind.wrap IntKind.u8 a) ::
   (port = (↑(at16 (List.take 9 ys1) 0) : Int)) ::
   (IntKind.wrap IntKind.u8 b ≠ IntKind.wrap IntKind.u8 a) ::
   (SameO (some { t := 65, sz := 9, exact := false, fz := false, body := Body.rows [[AV.val (Value.int IntKind.i64 (17 : Int)), AV.val (Value.int IntKind.i64 c), AV.val (Value.int IntKind.u8 (10 : Int)), AV.val (Value.int IntKind.u8 (0 : Int)), AV.val (Value.int IntKind.u8 (0 : Int)), AV.val (Value.int IntKind.u8 (IntKind.wrap IntKind.u8 a)), AV.val (Value.int IntKind.i64 port), AV.val (Value.int IntKind.i64 (1 : Int)), AV.val (Value.int IntKind.i64 (120 : Int))], [AV.val (Value.int IntKind.i64 (17 : Int)), AV.val (Value.int IntKind.i64 d), AV.val (Value.int IntKind.u8 (10 : Int)), AV.val (Value.int IntKind.u8 (0 : Int)), AV.val (Value.int IntKind.u8 (0 : Int)), AV.val (Value.int IntKind.u8 (IntKind.wrap IntKind.u8 b)), AV.val (Value.int IntKind.i64 port), AV.val (Value.int IntKind.i64 (1 : Int)), AV.val (Value.int IntKind.i64 (120 : Int))]] }) { t := 65, sz := 9, exact := false, fz := false, body := Body.rows [[AV.val (Value.int IntKind.i64 (17 : Int)), AV.val (Value.int IntKind.i64 c), AV.val (Value.int IntKind.u8 (10 : Int)), AV.val (Value.int IntKind.u8 (0 : Int)), AV.val (Value.int IntKind.u8 (0 : Int)), AV.val (Value.int IntKind.u8 (IntKind.wrap IntKind.u8 a)), AV.val (Value.int IntKind.i64 port), AV.val (Value.int IntKind.i64 (1 : Int)), AV.val (Value.int IntKind.i64 (120 : Int))], [AV.val (Value.int IntKind.i64 (17 : Int)), AV.val (Value.int IntKind.i64 d), AV.val (Value.int IntKind.u8 (10 : Int)), AV.val (Value.int IntKind.u8 (0 : Int)), AV.val (Value.int IntKind.u8 (0 : Int)), AV.val (Value.int IntKind.u8 (IntKind.wrap IntKind.u8 b)), AV.val (Value.int IntKind.i64 port), AV.val (Value.int IntKind.i64 (1 : Int)), AV.val (Value.int IntKind.i64 (120 : Int))]] }) ::
   (SameO (some { t := 109, sz := 4, exact := true, fz := false, body := Body.rows [[AV.val (Value.int IntKind.i64 (40000 : Int)), AV.val (Value.int IntKind.i64 (128 : Int)), AV.val (Value.int IntKind.i64 (0 : Int)), AV.sl 3 0 2 none]] }) { t := 109, sz := 4, exact := true, fz := false, body := Body.rows [[AV.val (Value.int IntKind.i64 (40000 : Int)), AV.val (Value.int IntKind.i64 (128 : Int)), AV.val (Value.int IntKind.i64 (0 : Int)), AV.sl 3 0 2 none]] }) ::
   (0 ≤ 0) ::
   (9 ≤ List.length ys1) ::
   (0 + (at16 (List.take 9 ys1) 4 - 8) ≤ List.length (List.take (at16 (List.take 9 ys1) 4 - 8) (List.drop 8 (List.take 9 ys1)))) ::
   (byteP [(203 : Int), (0 : Int), (113 : Int), (7 : Int), (8 : Int), (8 : Int), IntKind.wrap IntKind.u8 (Int.fdiv (x i) (256 : Int)), IntKind.wrap IntKind.u8 (x i)]) ::
   ((0 : Int) ≤ c ∧ c ≤ (65535 : Int)) ::
   ((0 : Int) ≤ (↑(at16 (List.take 9 ys1) 2) : Int) ∧ (↑(at16 (List.take 9 ys1) 2) : Int) ≤ (65535 : Int)) ::
   (List.length (List.take (at16 (List.take 9 ys1) 4 - 8) (List.take (at16 (List.take 9 ys1) 4 - 8) (List.drop 8 (List.take 9 ys1)))) ≤ 1472) ::
   (0 ≤ 100000) ::
   (SameO (some { t := 5, sz := 1, exact := false, fz := false, body := Body.bytes ys1 }) { t := 5, sz := 1, exact := false, fz := false, body := Body.bytes ys1 }) ::
   (SameO (some { t := 5, sz := 1, exact := false, fz := false, body := Body.bytes [] }) { t := 5, sz := 1, exact := false, fz := false, body := Body.bytes [] }) ::
   (SameO (some { t := 88, sz := 2, exact := true, fz := false, body := Body.rows [[AV.val (Value.int IntKind.i64 (128 : Int)), AV.val (Value.slice none 0 0)]] }) { t := 88, sz := 2, exact := true, fz := false, body := Body.rows [[AV.val (Value.int IntKind.i64 (128 : Int)), AV.val (Value.slice none 0 0)]] }) ::
   (SameO (some { t := 65, sz := 9, exact := false, fz := false, body := Body.rows [[AV.val (Value.int IntKind.i64 (17 : Int)), AV.val (Value.int IntKind.i64 c), AV.val (Value.int IntKind.u8 (10 : Int)), AV.val (Value.int IntKind.u8 (0 : Int)), AV.val (Value.int IntKind.u8 (0 : Int)), AV.val (Value.int IntKind.u8 (IntKind.wrap IntKind.u8 a)), AV.val (Value.int IntKind.i64 port), AV.val (Value.int IntKind.i64 (1 : Int)), AV.val (Value.int IntKind.i64 (120 : Int))], [AV.val (Value.int IntKind.i64 (17 : Int)), AV.val (Value.int IntKind.i64 d), AV.val (Value.int IntKind.u8 (10 : Int)), AV.val (Value.int IntKind.u8 (0 : Int)), AV.val (Value.int IntKind.u8 (0 : Int)), AV.val (Value.int IntKind.u8 (IntKind.wrap IntKind.u8 b)), AV.val (Value.int IntKind.i64 port), AV.val (Value.int IntKind.i64 (1 : Int)), AV.val (Value.int IntKind.i64 (120 : Int))]] }) { t := 65, sz := 9, exact := false, fz := false, body := Body.rows [[AV.val (Value.int IntKind.i64 (17 : Int)), AV.val (Value.int IntKind.i64 c), AV.val (Value.int IntKind.u8 (10 : Int)), AV.val (Value.int IntKind.u8 (0 : Int)), AV.val (Value.int IntKind.u8 (0 : Int)), AV.val (Value.int IntKind.u8 (IntKind.wrap IntKind.u8 a)), AV.val (Value.int IntKind.i64 port), AV.val (Value.int IntKind.i64 (1 : Int)), AV.val (Value.int IntKind.i64 (120 : Int))], [AV.val (Value.int IntKind.i64 (17 : Int)), AV.val (Value.int IntKind.i64 d), AV.val (Value.int IntKind.u8 (10 : Int)), AV.val (Value.int IntKind.u8 (0 : Int)), AV.val (Value.int IntKind.u8 (0 : Int)), AV.val (Value.int IntKind.u8 (IntKind.wrap IntKind.u8 b)), AV.val (Value.int IntKind.i64 port), AV.val (Value.int IntKind.i64 (1 : Int)), AV.val (Value.int IntKind.i64 (120 : Int))]] }) ::
   (SameO (some { t := 109, sz := 4, exact := true, fz := false, body := Body.rows [[AV.val (Value.int IntKind.i64 (40000 : Int)), AV.val (Value.int IntKind.i64 (128 : Int)), AV.val (Value.int IntKind.i64 (0 : Int)), AV.sl 3 0 2 none]] }) { t := 109, sz := 4, exact := true, fz := false, body := Body.rows [[AV.val (Value.int IntKind.i64 (40000 : Int)), AV.val (Value.int IntKind.i64 (128 : Int)), AV.val (Value.int IntKind.i64 (0 : Int)), AV.sl 3 0 2 none]] }) ::
   (SameO (some { t := 113, sz := 5, exact := true, fz := false, body := Body.rows [[AV.ptr 1 0 0, AV.ptr 2 0 0, AV.val (Value.int IntKind.i64 (120 : Int)), AV.val (Value.int IntKind.i64 (7200 : Int)), AV.val (Value.int IntKind.i64 (30 : Int))]] }) { t := 113, sz := 5, exact := true, fz := false, body := Body.rows [[AV.ptr 1 0 0, AV.ptr 2 0 0, AV.val (Value.int IntKind.i64 (120 : Int)), AV.val (Value.int IntKind.i64 (7200 : Int)), AV.val (Value.int IntKind.i64 (30 : Int))]] }) ::
   rp 2 (True) (
   (1 ≤ 1) ::
   (byteP [(10 : Int), (0 : Int), (0 : Int), IntKind.wrap IntKind.u8 b, (8 : Int), (8 : Int), IntKind.wrap IntKind.u8 (Int.fdiv (x i) (256 : Int)), IntKind.wrap IntKind.u8 (x i)]) ::
   ((0 : Int) ≤ port ∧ port ≤ (65535 : Int)) ::
   ((0 : Int) ≤ (53 : Int) ∧ (53 : Int) ≤ (65535 : Int)) ::
   (1 ≤ 1472) ::
   (0 ≤ 100000) ::
   (udpP (10 : Int) (0 : Int) (0 : Int) (IntKind.wrap IntKind.u8 b) (8 : Int) (8 : Int) (IntKind.wrap IntKind.u8 (Int.fdiv (x i) (256 : Int))) (IntKind.wrap IntKind.u8 (x i)) port (53 : Int) [(120 : UInt8)] = ys3) ::
   (0 ≤ 0) ::
   (9 ≤ List.length ys3) ::
   ((17 : Int) = (17 : Int)) ::
   rp 2 ((0 : Int) = (0 : Int)) (
   (byteP [(10 : Int), (0 : Int), (0 : Int), IntKind.wrap IntKind.u8 b, (8 : Int), (8 : Int), IntKind.wrap IntKind.u8 (Int.fdiv (x i) (256 : Int)), IntKind.wrap IntKind.u8 (x i)]) ::
   (8 ≤ at16 (List.take 9 ys3) 4) ::
   (at16 (List.take 9 ys3) 4 ≤ List.length (List.take 9 ys3)) ::
   (List.length (List.take 9 ys3) ≤ 100000) ::
   (at16 (List.take 9 ys3) 6 = 0 ∨ ofL (psd (17 : Int) (10 : Int) (0 : Int) (0 : Int) (IntKind.wrap IntKind.u8 b) (8 : Int) (8 : Int) (IntKind.wrap IntKind.u8 (Int.fdiv (x i) (256 : Int))) (IntKind.wrap IntKind.u8 (x i)) (↑(at16 (List.take 9 ys3) 4) : Int) (List.take (at16 (List.take 9 ys3) 4) (List.take 9 ys3))) = 0) ::
   (((↑(at16 (List.take 9 ys3) 0) : Int) == (0 : Int)) = false) ::
   rp 4 (decide ((↑(at16 (List.take 9 ys3) 0) : Int) ≥ (1 : Int)) = true) (
   rp 3 ((!decide ((↑(at16 (List.take 9 ys3) 0) : Int) ≤ (65535 : Int))) = false) (
   (IntKind.wrap IntKind.u8 b = IntKind.wrap IntKind.u8 b) ::
   (port = (↑(at16 (List.take 9 ys3) 0) : Int)) ::
   (IntKind.wrap IntKind.u8 a ≠ IntKind.wrap IntKind.u8 b) ::
   (SameO (some { t := 65, sz := 9, exact := false, fz := false, body := Body.rows [[AV.val (Value.int IntKind.i64 (17 : Int)), AV.val (Value.int IntKind.i64 c), AV.val (Value.int IntKind.u8 (10 : Int)), AV.val (Value.int IntKind.u8 (0 : Int)), AV.val (Value.int IntKind.u8 (0 : Int)), AV.val (Value.int IntKind.u8 (IntKind.wrap IntKind.u8 a)), AV.val (Value.int IntKind.i64 port), AV.val (Value.int IntKind.i64 (1 : Int)), AV.val (Value.int IntKind.i64 (120 : Int))], [AV.val (Value.int IntKind.i64 (17 : Int)), AV.val (Value.int IntKind.i64 d), AV.val (Value.int IntKind.u8 (10 : Int)), AV.val (Value.int IntKind.u8 (0 : Int)), AV.val (Value.int IntKind.u8 (0 : Int)), AV.val (Value.int IntKind.u8 (IntKind.wrap IntKind.u8 b)), AV.val (Value.int IntKind.i64 port), AV.val (Value.int IntKind.i64 (1 : Int)), AV.val (Value.int IntKind.i64 (120 : Int))]] }) { t := 65, sz := 9, exact := false, fz := false, body := Body.rows [[AV.val (Value.int IntKind.i64 (17 : Int)), AV.val (Value.int IntKind.i64 c), AV.val (Value.int IntKind.u8 (10 : Int)), AV.val (Value.int IntKind.u8 (0 : Int)), AV.val (Value.int IntKind.u8 (0 : Int)), AV.val (Value.int IntKind.u8 (IntKind.wrap IntKind.u8 a)), AV.val (Value.int IntKind.i64 port), AV.val (Value.int IntKind.i64 (1 : Int)), AV.val (Value.int IntKind.i64 (120 : Int))], [AV.val (Value.int IntKind.i64 (17 : Int)), AV.val (Value.int IntKind.i64 d), AV.val (Value.int IntKind.u8 (10 : Int)), AV.val (Value.int IntKind.u8 (0 : Int)), AV.val (Value.int IntKind.u8 (0 : Int)), AV.val (Value.int IntKind.u8 (IntKind.wrap IntKind.u8 b)), AV.val (Value.int IntKind.i64 port), AV.val (Value.int IntKind.i64 (1 : Int)), AV.val (Value.int IntKind.i64 (120 : Int))]] }) ::
   (SameO (some { t := 109, sz := 4, exact := true, fz := false, body := Body.rows [[AV.val (Value.int IntKind.i64 (40000 : Int)), AV.val (Value.int IntKind.i64 (128 : Int)), AV.val (Value.int IntKind.i64 (0 : Int)), AV.sl 3 0 2 none]] }) { t := 109, sz := 4, exact := true, fz := false, body := Body.rows [[AV.val (Value.int IntKind.i64 (40000 : Int)), AV.val (Value.int IntKind.i64 (128 : Int)), AV.val (Value.int IntKind.i64 (0 : Int)), AV.sl 3 0 2 none]] }) ::
   (0 ≤ 0) ::
   (9 ≤ List.length ys3) ::
   (0 + (at16 (List.take 9 ys3) 4 - 8) ≤ List.length (List.take (at16 (List.take 9 ys3) 4 - 8) (List.drop 8 (List.take 9 ys3)))) ::
   (byteP [(203 : Int), (0 : Int), (113 : Int), (7 : Int), (8 : Int), (8 : Int), IntKind.wrap IntKind.u8 (Int.fdiv (x i) (256 : Int)), IntKind.wrap IntKind.u8 (x i)]) ::
   ((0 : Int) ≤ d ∧ d ≤ (65535 : Int)) ::
   ((0 : Int) ≤ (↑(at16 (List.take 9 ys3) 2) : Int) ∧ (↑(at16 (List.take 9 ys3) 2) : Int) ≤ (65535 : Int)) ::
   (List.length (List.take (at16 (List.take 9 ys3) 4 - 8) (List.take (at16 (List.take 9 ys3) 4 - 8) (List.drop 8 (List.take 9 ys3)))) ≤ 1472) ::
   (0 ≤ 100000) ::
   (SameO (some { t := 5, sz := 1, exact := false, fz := false, body := Body.bytes ys3 }) { t := 5, sz := 1, exact := false, fz := false, body := Body.bytes ys3 }) ::
   (SameO (some { t := 5, sz := 1, exact := false, fz := false, body := Body.bytes [] }) { t := 5, sz := 1, exact := false, fz := false, body := Body.bytes [] }) ::
   (SameO (some { t := 88, sz := 2, exact := true, fz := false, body := Body.rows [[AV.val (Value.int IntKind.i64 (128 : Int)), AV.val (Value.slice none 0 0)]] }) { t := 88, sz := 2, exact := true, fz := false, body := Body.rows [[AV.val (Value.int IntKind.i64 (128 : Int)), AV.val (Value.slice none 0 0)]] }) ::
   (SameO (some { t := 65, sz := 9, exact := false, fz := false, body := Body.rows [[AV.val (Value.int IntKind.i64 (17 : Int)), AV.val (Value.int IntKind.i64 c), AV.val (Value.int IntKind.u8 (10 : Int)), AV.val (Value.int IntKind.u8 (0 : Int)), AV.val (Value.int IntKind.u8 (0 : Int)), AV.val (Value.int IntKind.u8 (IntKind.wrap IntKind.u8 a)), AV.val (Value.int IntKind.i64 port), AV.val (Value.int IntKind.i64 (1 : Int)), AV.val (Value.int IntKind.i64 (120 : Int))], [AV.val (Value.int IntKind.i64 (17 : Int)), AV.val (Value.int IntKind.i64 d), AV.val (Value.int IntKind.u8 (10 : Int)), AV.val (Value.int IntKind.u8 (0 : Int)), AV.val (Value.int IntKind.u8 (0 : Int)), AV.val (Value.int IntKind.u8 (IntKind.wrap IntKind.u8 b)), AV.val (Value.int IntKind.i64 port), AV.val (Value.int IntKind.i64 (1 : Int)), AV.val (Value.int IntKind.i64 (120 : Int))]] }) { t := 65, sz := 9, exact := false, fz := false, body := Body.rows [[AV.val (Value.int IntKind.i64 (17 : Int)), AV.val (Value.int IntKind.i64 c), AV.val (Value.int IntKind.u8 (10 : Int)), AV.val (Value.int IntKind.u8 (0 : Int)), AV.val (Value.int IntKind.u8 (0 : Int)), AV.val (Value.int IntKind.u8 (IntKind.wrap IntKind.u8 a)), AV.val (Value.int IntKind.i64 port), AV.val (Value.int IntKind.i64 (1 : Int)), AV.val (Value.int IntKind.i64 (120 : Int))], [AV.val (Value.int IntKind.i64 (17 : Int)), AV.val (Value.int IntKind.i64 d), AV.val (Value.int IntKind.u8 (10 : Int)), AV.val (Value.int IntKind.u8 (0 : Int)), AV.val (Value.int IntKind.u8 (0 : Int)), AV.val (Value.int IntKind.u8 (IntKind.wrap IntKind.u8 b)), AV.val (Value.int IntKind.i64 port), AV.val (Value.int IntKind.i64 (1 : Int)), AV.val (Value.int IntKind.i64 (120 : Int))]] }) ::
   (SameO (some { t := 109, sz := 4, exact := true, fz := false, body := Body.rows [[AV.val (Value.int IntKind.i64 (40000 : Int)), AV.val (Value.int IntKind.i64 (128 : Int)), AV.val (Value.int IntKind.i64 (0 : Int)), AV.sl 3 0 2 none]] }) { t := 109, sz := 4, exact := true, fz := false, body := Body.rows [[AV.val (Value.int IntKind.i64 (40000 : Int)), AV.val (Value.int IntKind.i64 (128 : Int)), AV.val (Value.int IntKind.i64 (0 : Int)), AV.sl 3 0 2 none]] }) ::
   (SameO (some { t := 113, sz := 5, exact := true, fz := false, body := Body.rows [[AV.ptr 1 0 0, AV.ptr 2 0 0, AV.val (Value.int IntKind.i64 (120 : Int)), AV.val (Value.int IntKind.i64 (7200 : Int)), AV.val (Value.int IntKind.i64 (30 : Int))]] }) { t := 113, sz := 5, exact := true, fz := false, body := Body.rows [[AV.ptr 1 0 0, AV.ptr 2 0 0, AV.val (Value.int IntKind.i64 (120 : Int)), AV.val (Value.int IntKind.i64 (7200 : Int)), AV.val (Value.int IntKind.i64 (30 : Int))]] }) ::
   (0 ≤ 0) ::
   (0 + (8 + List.length (List.take (at16 (List.take 9 ys1) 4 - 8) (List.take (at16 (List.take 9 ys1) 4 - 8) (List.drop 8 (List.take 9 ys1))))) ≤ List.length (udpP (203 : Int) (0 : Int) (113 : Int) (7 : Int) (8 : Int) (8 : Int) (IntKind.wrap IntKind.u8 (Int.fdiv (x i) (256 : Int))) (IntKind.wrap IntKind.u8 (x i)) c (↑(at16 (List.take 9 ys1) 2) : Int) (List.take (at16 (List.take 9 ys1) 4 - 8) (List.take (at16 (List.take 9 ys1) 4 - 8) (List.drop 8 (List.take 9 ys1)))))) ::
   ((17 : Int) = (17 : Int)) ::
   rp 2 ((0 : Int) = (0 : Int)) (
   (byteP [(203 : Int), (0 : Int), (113 : Int), (7 : Int), (8 : Int), (8 : Int), IntKind.wrap IntKind.u8 (Int.fdiv (x i) (256 : Int)), IntKind.wrap IntKind.u8 (x i)]) ::
   (8 ≤ at16 (List.take (8 + List.length (List.take (at16 (List.take 9 ys1) 4 - 8) (List.take (at16 (List.take 9 ys1) 4 - 8) (List.drop 8 (List.take 9 ys1))))) (udpP (203 : Int) (0 : Int) (113 : Int) (7 : Int) (8 : Int) (8 : Int) (IntKind.wrap IntKind.u8 (Int.fdiv (x i) (256 : Int))) (IntKind.wrap IntKind.u8 (x i)) c (↑(at16 (List.take 9 ys1) 2) : Int) (List.take (at16 (List.take 9 ys1) 4 - 8) (List.take (at16 (List.take 9 ys1) 4 - 8) (List.drop 8 (List.take 9 ys1)))))) 4) ::
   (at16 (List.take (8 + List.length (List.take (at16 (List.take 9 ys1) 4 - 8) (List.take (at16 (List.take 9 ys1) 4 - 8) (List.drop 8 (List.take 9 ys1))))) (udpP (203 : Int) (0 : Int) (113 : Int) (7 : Int) (8 : Int) (8 : Int) (IntKind.wrap IntKind.u8 (Int.fdiv (x i) (256 : Int))) (IntKind.wrap IntKind.u8 (x i)) c (↑(at16 (List.take 9 ys1) 2) : Int) (List.take (at16 (List.take 9 ys1) 4 - 8) (List.take (at16 (List.take 9 ys1) 4 - 8) (List.drop 8 (List.take 9 ys1)))))) 4 ≤ List.length (List.take (8 + List.length (List.take (at16 (List.take 9 ys1) 4 - 8) (List.take (at16 (List.take 9 ys1) 4 - 8) (List.drop 8 (List.take 9 ys1))))) (udpP (203 : Int) (0 : Int) (113 : Int) (7 : Int) (8 : Int) (8 : Int) (IntKind.wrap IntKind.u8 (Int.fdiv (x i) (256 : Int))) (IntKind.wrap IntKind.u8 (x i)) c (↑(at16 (List.take 9 ys1) 2) : Int) (List.take (at16 (List.take 9 ys1) 4 - 8) (List.take (at16 (List.take 9 ys1) 4 - 8) (List.drop 8 (List.take 9 ys1))))))) ::
   (List.length (List.take (8 + List.length (List.take (at16 (List.take 9 ys1) 4 - 8) (List.take (at16 (List.take 9 ys1) 4 - 8) (List.drop 8 (List.take 9 ys1))))) (udpP (203 : Int) (0 : Int) (113 : Int) (7 : Int) (8 : Int) (8 : Int) (IntKind.wrap IntKind.u8 (Int.fdiv (x i) (256 : Int))) (IntKind.wrap IntKind.u8 (x i)) c (↑(at16 (List.take 9 ys1) 2) : Int) (List.take (at16 (List.take 9 ys1) 4 - 8) (List.take (at16 (List.take 9 ys1) 4 - 8) (List.drop 8 (List.take 9 ys1)))))) ≤ 100000) ::
   (at16 (List.take (8 + List.length (List.take (at16 (List.take 9 ys1) 4 - 8) (List.take (at16 (List.take 9 ys1) 4 - 8) (List.drop 8 (List.take 9 ys1))))) (udpP (203 : Int) (0 : Int) (113 : Int) (7 : Int) (8 : Int) (8 : Int) (IntKind.wrap IntKind.u8 (Int.fdiv (x i) (256 : Int))) (IntKind.wrap IntKind.u8 (x i)) c (↑(at16 (List.take 9 ys1) 2) : Int) (List.take (at16 (List.take 9 ys1) 4 - 8) (List.take (at16 (List.take 9 ys1) 4 - 8) (List.drop 8 (List.take 9 ys1)))))) 6 = 0 ∨ ofL (psd (17 : Int) (203 : Int) (0 : Int) (113 : Int) (7 : Int) (8 : Int) (8 : Int) (IntKind.wrap IntKind.u8 (Int.fdiv (x i) (256 : Int))) (IntKind.wrap IntKind.u8 (x i)) (↑(at16 (List.take (8 + List.length (List.take (at16 (List.take 9 ys1) 4 - 8) (List.take (at16 (List.take 9 ys1) 4 - 8) (List.drop 8 (List.take 9 ys1))))) (udpP (203 : Int) (0 : Int) (113 : Int) (7 : Int) (8 : Int) (8 : Int) (IntKind.wrap IntKind.u8 (Int.fdiv (x i) (256 : Int))) (IntKind.wrap IntKind.u8 (x i)) c (↑(at16 (List.take 9 ys1) 2) : Int) (List.take (at16 (List.take 9 ys1) 4 - 8) (List.take (at16 (List.take 9 ys1) 4 - 8) (List.drop 8 (List.take 9 ys1)))))) 4) : Int) (List.take (at16 (List.take (8 + List.length (List.take (at16 (List.take 9 ys1) 4 - 8) (List.take (at16 (List.take 9 ys1) 4 - 8) (List.drop 8 (List.take 9 ys1))))) (udpP (203 : Int) (0 : Int) (113 : Int) (7 : Int) (8 : Int) (8 : Int) (IntKind.wrap IntKind.u8 (Int.fdiv (x i) (256 : Int))) (IntKind.wrap IntKind.u8 (x i)) c (↑(at16 (List.take 9 ys1) 2) : Int) (List.take (at16 (List.take 9 ys1) 4 - 8) (List.take (at16 (List.take 9 ys1) 4 - 8) (List.drop 8 (List.take 9 ys1)))))) 4) (List.take (8 + List.length (List.take (at16 (List.take 9 ys1) 4 - 8) (List.take (at16 (List.take 9 ys1) 4 - 8) (List.drop 8 (List.take 9 ys1))))) (udpP (203 : Int) (0 : Int) (113 : Int) (7 : Int) (8 : Int) (8 : Int) (IntKind.wrap IntKind.u8 (Int.fdiv (x i) (256 : Int))) (IntKind.wrap IntKind.u8 (x i)) c (↑(at16 (List.take 9 ys1) 2) : Int) (List.take (at16 (List.take 9 ys1) 4 - 8) (List.take (at16 (List.take 9 ys1) 4 - 8) (List.drop 8 (List.take 9 ys1)))))))) = 0) ::
   (0 ≤ 0) ::
   (0 + (8 + List.length (List.take (at16 (List.take 9 ys3) 4 - 8) (List.take (at16 (List.take 9 ys3) 4 - 8) (List.drop 8 (List.take 9 ys3))))) ≤ List.length (udpP (203 : Int) (0 : Int) (113 : Int) (7 : Int) (8 : Int) (8 : Int) (IntKind.wrap IntKind.u8 (Int.fdiv (x i) (256 : Int))) (IntKind.wrap IntKind.u8 (x i)) d (↑(at16 (List.take 9 ys3) 2) : Int) (List.take (at16 (List.take 9 ys3) 4 - 8) (List.take (at16 (List.take 9 ys3) 4 - 8) (List.drop 8 (List.take 9 ys3)))))) ::
   ((17 : Int) = (17 : Int)) ::
   rp 2 ((0 : Int) = (0 : Int)) (
   (byteP [(203 : Int), (0 : Int), (113 : Int), (7 : Int), (8 : Int), (8 : Int), IntKind.wrap IntKind.u8 (Int.fdiv (x i) (256 : Int)), IntKind.wrap IntKind.u8 (x i)]) ::
   (8 ≤ at16 (List.take (8 + List.length (List.take (at16 (List.take 9 ys3) 4 - 8) (List.take (at16 (List.take 9 ys3) 4 - 8) (List.drop 8 (List.take 9 ys3))))) (udpP (203 : Int) (0 : Int) (113 : Int) (7 : Int) (8 : Int) (8 : Int) (IntKind.wrap IntKind.u8 (Int.fdiv (x i) (256 : Int))) (IntKind.wrap IntKind.u8 (x i)) d (↑(at16 (List.take 9 ys3) 2) : Int) (List.take (at16 (List.take 9 ys3) 4 - 8) (List.take (at16 (List.take 9 ys3) 4 - 8) (List.drop 8 (List.take 9 ys3)))))) 4) ::
   (at16 (List.take (8 + List.length (List.take (at16 (List.take 9 ys3) 4 - 8) (List.take (at16 (List.take 9 ys3) 4 - 8) (List.drop 8 (List.take 9 ys3))))) (udpP (203 : Int) (0 : Int) (113 : Int) (7 : Int) (8 : Int) (8 : Int) (IntKind.wrap IntKind.u8 (Int.fdiv (x i) (256 : Int))) (IntKind.wrap IntKind.u8 (x i)) d (↑(at16 (List.take 9 ys3) 2) : Int) (List.take (at16 (List.take 9 ys3) 4 - 8) (List.take (at16 (List.take 9 ys3) 4 - 8) (List.drop 8 (List.take 9 ys3)))))) 4 ≤ List.length (List.take (8 + List.length (List.take (at16 (List.take 9 ys3) 4 - 8) (List.take (at16 (List.take 9 ys3) 4 - 8) (List.drop 8 (List.take 9 ys3))))) (udpP (203 : Int) (0 : Int) (113 : Int) (7 : Int) (8 : Int) (8 : Int) (IntKind.wrap IntKind.u8 (Int.fdiv (x i) (256 : Int))) (IntKind.wrap IntKind.u8 (x i)) d (↑(at16 (List.take 9 ys3) 2) : Int) (List.take (at16 (List.take 9 ys3) 4 - 8) (List.take (at16 (List.take 9 ys3) 4 - 8) (List.drop 8 (List.take 9 ys3))))))) ::
   (List.length (List.take (8 + List.length (List.take (at16 (List.take 9 ys3) 4 - 8) (List.take (at16 (List.take 9 ys3) 4 - 8) (List.drop 8 (List.take 9 ys3))))) (udpP (203 : Int) (0 : Int) (113 : Int) (7 : Int) (8 : Int) (8 : Int) (IntKind.wrap IntKind.u8 (Int.fdiv (x i) (256 : Int))) (IntKind.wrap IntKind.u8 (x i)) d (↑(at16 (List.take 9 ys3) 2) : Int) (List.take (at16 (List.take 9 ys3) 4 - 8) (List.take (at16 (List.take 9 ys3) 4 - 8) (List.drop 8 (List.take 9 ys3)))))) ≤ 100000) ::
   (at16 (List.take (8 + List.length (List.take (at16 (List.take 9 ys3) 4 - 8) (List.take (at16 (List.take 9 ys3) 4 - 8) (List.drop 8 (List.take 9 ys3))))) (udpP (203 : Int) (0 : Int) (113 : Int) (7 : Int) (8 : Int) (8 : Int) (IntKind.wrap IntKind.u8 (Int.fdiv (x i) (256 : Int))) (IntKind.wrap IntKind.u8 (x i)) d (↑(at16 (List.take 9 ys3) 2) : Int) (List.take (at16 (List.take 9 ys3) 4 - 8) (List.take (at16 (List.take 9 ys3) 4 - 8) (List.drop 8 (List.take 9 ys3)))))) 6 = 0 ∨ ofL (psd (17 : Int) (203 : Int) (0 : Int) (113 : Int) (7 : Int) (8 : Int) (8 : Int) (IntKind.wrap IntKind.u8 (Int.fdiv (x i) (256 : Int))) (IntKind.wrap IntKind.u8 (x i)) (↑(at16 (List.take (8 + List.length (List.take (at16 (List.take 9 ys3) 4 - 8) (List.take (at16 (List.take 9 ys3) 4 - 8) (List.drop 8 (List.take 9 ys3))))) (udpP (203 : Int) (0 : Int) (113 : Int) (7 : Int) (8 : Int) (8 : Int) (IntKind.wrap IntKind.u8 (Int.fdiv (x i) (256 : Int))) (IntKind.wrap IntKind.u8 (x i)) d (↑(at16 (List.take 9 ys3) 2) : Int) (List.take (at16 (List.take 9 ys3) 4 - 8) (List.take (at16 (List.take 9 ys3) 4 - 8) (List.drop 8 (List.take 9 ys3)))))) 4) : Int) (List.take (at16 (List.take (8 + List.length (List.take (at16 (List.take 9 ys3) 4 - 8) (List.take (at16 (List.take 9 ys3) 4 - 8) (List.drop 8 (List.take 9 ys3))))) (udpP (203 : Int) (0 : Int) (113 : Int) (7 : Int) (8 : Int) (8 : Int) (IntKind.wrap IntKind.u8 (Int.fdiv (x i) (256 : Int))) (IntKind.wrap IntKind.u8 (x i)) d (↑(at16 (List.take 9 ys3) 2) : Int) (List.take (at16 (List.take 9 ys3) 4 - 8) (List.take (at16 (List.take 9 ys3) 4 - 8) (List.drop 8 (List.take 9 ys3)))))) 4) (List.take (8 + List.length (List.take (at16 (List.take 9 ys3) 4 - 8) (List.take (at16 (List.take 9 ys3) 4 - 8) (List.drop 8 (List.take 9 ys3))))) (udpP (203 : Int) (0 : Int) (113 : Int) (7 : Int) (8 : Int) (8 : Int) (IntKind.wrap IntKind.u8 (Int.fdiv (x i) (256 : Int))) (IntKind.wrap IntKind.u8 (x i)) d (↑(at16 (List.take 9 ys3) 2) : Int) (List.take (at16 (List.take 9 ys3) 4 - 8) (List.take (at16 (List.take 9 ys3) 4 - 8) (List.drop 8 (List.take 9 ys3)))))))) = 0) ::
   rp 3 (((↑(at16 (List.take (8 + List.length (List.take (at16 (List.take 9 ys1) 4 - 8) (List.take (at16 (List.take 9 ys1) 4 - 8) (List.drop 8 (List.take 9 ys1))))) (udpP (203 : Int) (0 : Int) (113 : Int) (7 : Int) (8 : Int) (8 : Int) (IntKind.wrap IntKind.u8 (Int.fdiv (x i) (256 : Int))) (IntKind.wrap IntKind.u8 (x i)) c (↑(at16 (List.take 9 ys1) 2) : Int) (List.take (at16 (List.take 9 ys1) 4 - 8) (List.take (at16 (List.take 9 ys1) 4 - 8) (List.drop 8 (List.take 9 ys1)))))) 0) : Int) == (↑(at16 (List.take (8 + List.length (List.take (at16 (List.take 9 ys3) 4 - 8) (List.take (at16 (List.take 9 ys3) 4 - 8) (List.drop 8 (List.take 9 ys3))))) (udpP (203 : Int) (0 : Int) (113 : Int) (7 : Int) (8 : Int) (8 : Int) (IntKind.wrap IntKind.u8 (Int.fdiv (x i) (256 : Int))) (IntKind.wrap IntKind.u8 (x i)) d (↑(at16 (List.take 9 ys3) 2) : Int) (List.take (at16 (List.take 9 ys3) 4 - 8) (List.take (at16 (List.take 9 ys3) 4 - 8) (List.drop 8 (List.take 9 ys3)))))) 0) : Int)) = false) (
   rp 5 (decide (c ≥ (0 : Int)) = true) (
   rp 4 (((↑(at16 (List.take (8 + List.length (List.take (at16 (List.take 9 ys1) 4 - 8) (List.take (at16 (List.take 9 ys1) 4 - 8) (List.drop 8 (List.take 9 ys1))))) (udpP (203 : Int) (0 : Int) (113 : Int) (7 : Int) (8 : Int) (8 : Int) (IntKind.wrap IntKind.u8 (Int.fdiv (x i) (256 : Int))) (IntKind.wrap IntKind.u8 (x i)) c (↑(at16 (List.take 9 ys1) 2) : Int) (List.take (at16 (List.take 9 ys1) 4 - 8) (List.take (at16 (List.take 9 ys1) 4 - 8) (List.drop 8 (List.take 9 ys1)))))) 0) : Int) != c) = false) (
   (decide (c ≥ (0 : Int)) = true) ::
   (((↑(at16 (List.take (8 + List.length (List.take (at16 (List.take 9 ys1) 4 - 8) (List.take (at16 (List.take 9 ys1) 4 - 8) (List.drop 8 (List.take 9 ys1))))) (udpP (203 : Int) (0 : Int) (113 : Int) (7 : Int) (8 : Int) (8 : Int) (IntKind.wrap IntKind.u8 (Int.fdiv (x i) (256 : Int))) (IntKind.wrap IntKind.u8 (x i)) c (↑(at16 (List.take 9 ys1) 2) : Int) (List.take (at16 (List.take 9 ys1) 4 - 8) (List.take (at16 (List.take 9 ys1) 4 - 8) (List.drop 8 (List.take 9 ys1)))))) 0) : Int) != c) = false) ::
   (((↑(at16 (List.take (8 + List.length (List.take (at16 (List.take 9 ys1) 4 - 8) (List.take (at16 (List.take 9 ys1) 4 - 8) (List.drop 8 (List.take 9 ys1))))) (udpP (203 : Int) (0 : Int) (113 : Int) (7 : Int) (8 : Int) (8 : Int) (IntKind.wrap IntKind.u8 (Int.fdiv (x i) (256 : Int))) (IntKind.wrap IntKind.u8 (x i)) c (↑(at16 (List.take 9 ys1) 2) : Int) (List.take (at16 (List.take 9 ys1) 4 - 8) (List.take (at16 (List.take 9 ys1) 4 - 8) (List.drop 8 (List.take 9 ys1)))))) 0) : Int) == (↑(at16 (List.take (8 + List.length (List.take (at16 (List.take 9 ys3) 4 - 8) (List.take (at16 (List.take 9 ys3) 4 - 8) (List.drop 8 (List.take 9 ys3))))) (udpP (203 : Int) (0 : Int) (113 : Int) (7 : Int) (8 : Int) (8 : Int) (IntKind.wrap IntKind.u8 (Int.fdiv (x i) (256 : Int))) (IntKind.wrap IntKind.u8 (x i)) d (↑(at16 (List.take 9 ys3) 2) : Int) (List.take (at16 (List.take 9 ys3) 4 - 8) (List.take (at16 (List.take 9 ys3) 4 - 8) (List.drop 8 (List.take 9 ys3)))))) 0) : Int)) = false) ::
   (decide (c ≥ (0 : Int)) = true) ::
   (((↑(at16 (List.take (8 + List.length (List.take (at16 (List.take 9 ys1) 4 - 8) (List.take (at16 (List.take 9 ys1) 4 - 8) (List.drop 8 (List.take 9 ys1))))) (udpP (203 : Int) (0 : Int) (113 : Int) (7 : Int) (8 : Int) (8 : Int) (IntKind.wrap IntKind.u8 (Int.fdiv (x i) (256 : Int))) (IntKind.wrap IntKind.u8 (x i)) c (↑(at16 (List.take 9 ys1) 2) : Int) (List.take (at16 (List.take 9 ys1) 4 - 8) (List.take (at16 (List.take 9 ys1) 4 - 8) (List.drop 8 (List.take 9 ys1)))))) 0) : Int) == (↑(at16 (List.take (8 + List.length (List.take (at16 (List.take 9 ys3) 4 - 8) (List.take (at16 (List.take 9 ys3) 4 - 8) (List.drop 8 (List.take 9 ys3))))) (udpP (203 : Int) (0 : Int) (113 : Int) (7 : Int) (8 : Int) (8 : Int) (IntKind.wrap IntKind.u8 (Int.fdiv (x i) (256 : Int))) (IntKind.wrap IntKind.u8 (x i)) d (↑(at16 (List.take 9 ys3) 2) : Int) (List.take (at16 (List.take 9 ys3) 4 - 8) (List.take (at16 (List.take 9 ys3) 4 - 8) (List.drop 8 (List.take 9 ys3)))))) 0) : Int)) = false) ::
   (((↑(at16 (List.take (8 + List.length (List.take (at16 (List.take 9 ys3) 4 - 8) (List.take (at16 (List.take 9 ys3) 4 - 8) (List.drop 8 (List.take 9 ys3))))) (udpP (203 : Int) (0 : Int) (113 : Int) (7 : Int) (8 : Int) (8 : Int) (IntKind.wrap IntKind.u8 (Int.fdiv (x i) (256 : Int))) (IntKind.wrap IntKind.u8 (x i)) d (↑(at16 (List.take 9 ys3) 2) : Int) (List.take (at16 (List.take 9 ys3) 4 - 8) (List.take (at16 (List.take 9 ys3) 4 - 8) (List.drop 8 (List.take 9 ys3)))))) 0) : Int) != d) = false) ::
   (AV.val (Value.int IntKind.i64 a) = AV.val (Value.int IntKind.i64 a)) ::
   (AV.val (Value.int IntKind.i64 b) = AV.val (Value.int IntKind.i64 b)) ::
   (AV.val (Value.int IntKind.i64 port) = AV.val (Value.int IntKind.i64 port)) ::
   ((AV.view 1 n fun k => [AV.val (Value.int IntKind.i64 (x k))]) = AV.view 1 n fun i => [AV.val (Value.int IntKind.i64 (x i))]) ::
   (AV.val (Value.int IntKind.i64 (↑(at16 (List.take (8 + List.length (List.take (at16 (List.take 9 ys1) 4 - 8) (List.take (at16 (List.take 9 ys1) 4 - 8) (List.drop 8 (List.take 9 ys1))))) (udpP (203 : Int) (0 : Int) (113 : Int) (7 : Int) (8 : Int) (8 : Int) (IntKind.wrap IntKind.u8 (Int.fdiv (x i) (256 : Int))) (IntKind.wrap IntKind.u8 (x i)) c (↑(at16 (List.take 9 ys1) 2) : Int) (List.take (at16 (List.take 9 ys1) 4 - 8) (List.take (at16 (List.take 9 ys1) 4 - 8) (List.drop 8 (List.take 9 ys1)))))) 0) : Int)) = AV.val (Value.int IntKind.i64 c)) ::
   (AV.val (Value.int IntKind.i64 (↑(at16 (List.take (8 + List.length (List.take (at16 (List.take 9 ys3) 4 - 8) (List.take (at16 (List.take 9 ys3) 4 - 8) (List.drop 8 (List.take 9 ys3))))) (udpP (203 : Int) (0 : Int) (113 : Int) (7 : Int) (8 : Int) (8 : Int) (IntKind.wrap IntKind.u8 (Int.fdiv (x i) (256 : Int))) (IntKind.wrap IntKind.u8 (x i)) d (↑(at16 (List.take 9 ys3) 2) : Int) (List.take (at16 (List.take 9 ys3) 4 - 8) (List.take (at16 (List.take 9 ys3) 4 - 8) (List.drop 8 (List.take 9 ys3)))))) 0) : Int)) = AV.val (Value.int IntKind.i64 d)) ::
   (AV.val (Value.int IntKind.i64 (IntKind.wrap IntKind.i64 ((↑i : Int) + (1 : Int)))) = AV.val (Value.int IntKind.i64 (↑(i + 1) : Int))) ::
   (SameO (some { t := 65, sz := 9, exact := false, fz := false, body := Body.rows [[AV.val (Value.int IntKind.i64 (17 : Int)), AV.val (Value.int IntKind.i64 c), AV.val (Value.int IntKind.u8 (10 : Int)), AV.val (Value.int IntKind.u8 (0 : Int)), AV.val (Value.int IntKind.u8 (0 : Int)), AV.val (Value.int IntKind.u8 (IntKind.wrap IntKind.u8 a)), AV.val (Value.int IntKind.i64 port), AV.val (Value.int IntKind.i64 (1 : Int)), AV.val (Value.int IntKind.i64 (120 : Int))], [AV.val (Value.int IntKind.i64 (17 : Int)), AV.val (Value.int IntKind.i64 d), AV.val (Value.int IntKind.u8 (10 : Int)), AV.val (Value.int IntKind.u8 (0 : Int)), AV.val (Value.int IntKind.u8 (0 : Int)), AV.val (Value.int IntKind.u8 (IntKind.wrap IntKind.u8 b)), AV.val (Value.int IntKind.i64 port), AV.val (Value.int IntKind.i64 (1 : Int)), AV.val (Value.int IntKind.i64 (120 : Int))]] }) { t := 65, sz := 9, exact := false, fz := false, body := Body.rows [[AV.val (Value.int IntKind.i64 (17 : Int)), AV.val (Value.int IntKind.i64 c), AV.val (Value.int IntKind.u8 (10 : Int)), AV.val (Value.int IntKind.u8 (0 : Int)), AV.val (Value.int IntKind.u8 (0 : Int)), AV.val (Value.int IntKind.u8 (IntKind.wrap IntKind.u8 a)), AV.val (Value.int IntKind.i64 port), AV.val (Value.int IntKind.i64 (1 : Int)), AV.val (Value.int IntKind.i64 (120 : Int))], [AV.val (Value.int IntKind.i64 (17 : Int)), AV.val (Value.int IntKind.i64 d), AV.val (Value.int IntKind.u8 (10 : Int)), AV.val (Value.int IntKind.u8 (0 : Int)), AV.val (Value.int IntKind.u8 (0 : Int)), AV.val (Value.int IntKind.u8 (IntKind.wrap IntKind.u8 b)), AV.val (Value.int IntKind.i64 port), AV.val (Value.int IntKind.i64 (1 : Int)), AV.val (Value.int IntKind.i64 (120 : Int))]] }) :: []))))))))))))))) := by kernel_rfl
end Go.Proofs.Ytecmagdefllihaa

/- NatEnds: each round of its loop. -/
namespace Go.Proofs.Ytecmagdefllihaa.natEnds
open Go.RowKit
set_option linter.unusedSimpArgs false
set_option linter.unusedVariables false

theorem up (i : Nat) (h : i ≤ 1000) : AV.val (.int .i64 (IntKind.wrap .i64 ((i : Int) + 1))) = AV.val (.int .i64 ((i + 1 : Nat) : Int)) := by
  rw [w64 _ (by omega)]; rfl

set_option maxHeartbeats 40000000
set_option maxRecDepth 100000
theorem lo (a b port : Int) (n : Nat) (x : Nat → Int) (ha : 0 ≤ a ∧ a ≤ 255) (hb : 0 ≤ b ∧ b ≤ 255) (hab : a ≠ b) (hp : 1 ≤ port ∧ port ≤ 65535) (hn : n ≤ 40) (hn0 : 0 < n) (hl : port < 40000) :
    EvX Try.prog 0 (loopAt Try.prog 10 8) ((ndG0 a b port n x).st 0) .normal ((ndG1 a b port n x 40000 40001 1).st 0) := by
  have ba := wu8_lo a
  have ba2 := wu8_hi a
  have bb := wu8_lo b
  have bb2 := wu8_hi b
  have bx := wu8_lo (Int.fdiv (x 0) (256 : Int))
  have bx2 := wu8_hi (Int.fdiv (x 0) (256 : Int))
  have by1 := wu8_lo (x 0)
  have by2 := wu8_hi (x 0)
  have hne : IntKind.wrap IntKind.u8 a ≠ IntKind.wrap IntKind.u8 b := by rw [wu8, wu8]; omega
  obtain ⟨ys1, hy1⟩ : ∃ y, y = udpP 10 0 0 (IntKind.wrap IntKind.u8 a) 8 8 (IntKind.wrap IntKind.u8 (Int.fdiv (x 0) (256 : Int))) (IntKind.wrap IntKind.u8 (x 0)) port 53 [120] := ⟨_, rfl⟩
  obtain ⟨l1, k1, n1, fr1, tp1, d1, s1⟩ := udpP_facts (n := 9) hy1 rfl ⟨by omega, by omega⟩ ⟨by omega, by omega⟩ (by decide)
  obtain ⟨ys2, hy2⟩ : ∃ y, y = udpP 203 0 113 7 8 8 (IntKind.wrap IntKind.u8 (Int.fdiv (x 0) (256 : Int))) (IntKind.wrap IntKind.u8 (x 0)) 40000 53 [120] := ⟨_, rfl⟩
  obtain ⟨l2, k2, n2, fr2, tp2, d2, s2⟩ := udpP_facts (n := 9) hy2 rfl ⟨by omega, by omega⟩ ⟨by omega, by omega⟩ (by decide)
  obtain ⟨ys3, hy3⟩ : ∃ y, y = udpP 10 0 0 (IntKind.wrap IntKind.u8 b) 8 8 (IntKind.wrap IntKind.u8 (Int.fdiv (x 0) (256 : Int))) (IntKind.wrap IntKind.u8 (x 0)) port 53 [120] := ⟨_, rfl⟩
  obtain ⟨l3, k3, n3, fr3, tp3, d3, s3⟩ := udpP_facts (n := 9) hy3 rfl ⟨by omega, by omega⟩ ⟨by omega, by omega⟩ (by decide)
  obtain ⟨ys4, hy4⟩ : ∃ y, y = udpP 203 0 113 7 8 8 (IntKind.wrap IntKind.u8 (Int.fdiv (x 0) (256 : Int))) (IntKind.wrap IntKind.u8 (x 0)) 40001 53 [120] := ⟨_, rfl⟩
  obtain ⟨l4, k4, n4, fr4, tp4, d4, s4⟩ := udpP_facts (n := 9) hy4 rfl ⟨by omega, by omega⟩ ⟨by omega, by omega⟩ (by decide)
  refine stepXS_ok kU_ok (ends_lo a b port n x ys1 ys2 ys3 ys4) ?_
  repeat' (first | exact allNil | refine allCons ?_ ?_ | (with_reducible refine allRp _ ?_ ?_))
  all_goals (first | (with_reducible assumption) | ((try simp only [l1, k1, n1, fr1, tp1, d1, l2, k2, n2, fr2, tp2, d2, l3, k3, n3, fr3, tp3, d3, l4, k4, n4, fr4, tp4, d4, Nat.add_sub_cancel_left, List.take_length, List.length_cons, List.length_nil, Nat.reduceSub, Nat.reduceAdd, Nat.zero_add, List.take_succ_cons, List.take_zero]) <;> (first | (with_reducible exact True.intro) | (with_reducible rfl) | (with_reducible assumption) | (with_reducible exact hy1.symm) | (with_reducible exact hy2.symm) | (with_reducible exact hy3.symm) | (with_reducible exact hy4.symm) | (with_reducible exact Or.inr s1) | (with_reducible exact Or.inr s2) | (with_reducible exact Or.inr s3) | (with_reducible exact Or.inr s4) | (exact byte8 (by omega) (by omega) (by omega) (by omega) (by omega) (by omega) (by omega) (by omega)) | (exact decide_eq_false (by omega)) | (exact decide_eq_true (by omega)) | (with_reducible exact hne) | (with_reducible exact hne.symm) | (exact up _ (by omega)) | (exact nb_t hne) | omega | (simp; done) | (simp; omega) | (simp (disch := first | omega | (simp; omega)) [str_toList, wu8, isB, lo8_raw, fd256, fd65536, w64, sameO_iff, take_len, List.length_take, List.length_drop]; done) | (simp (disch := first | omega | (simp; omega)) [str_toList, wu8, isB, lo8_raw, fd256, fd65536, w64, sameO_iff, take_len, List.length_take, List.length_drop]; omega))))

theorem eq (a b port : Int) (n : Nat) (x : Nat → Int) (ha : 0 ≤ a ∧ a ≤ 255) (hb : 0 ≤ b ∧ b ≤ 255) (hab : a ≠ b) (hp : 1 ≤ port ∧ port ≤ 65535) (hn : n ≤ 40) (hn0 : 0 < n) (hl : port = 40000) :
    EvX Try.prog 0 (loopAt Try.prog 10 8) ((ndG0 a b port n x).st 0) .normal ((ndG1 a b port n x 40000 40001 1).st 0) := by
  have ba := wu8_lo a
  have ba2 := wu8_hi a
  have bb := wu8_lo b
  have bb2 := wu8_hi b
  have bx := wu8_lo (Int.fdiv (x 0) (256 : Int))
  have bx2 := wu8_hi (Int.fdiv (x 0) (256 : Int))
  have by1 := wu8_lo (x 0)
  have by2 := wu8_hi (x 0)
  have hne : IntKind.wrap IntKind.u8 a ≠ IntKind.wrap IntKind.u8 b := by rw [wu8, wu8]; omega
  obtain ⟨ys1, hy1⟩ : ∃ y, y = udpP 10 0 0 (IntKind.wrap IntKind.u8 a) 8 8 (IntKind.wrap IntKind.u8 (Int.fdiv (x 0) (256 : Int))) (IntKind.wrap IntKind.u8 (x 0)) port 53 [120] := ⟨_, rfl⟩
  obtain ⟨l1, k1, n1, fr1, tp1, d1, s1⟩ := udpP_facts (n := 9) hy1 rfl ⟨by omega, by omega⟩ ⟨by omega, by omega⟩ (by decide)
  obtain ⟨ys2, hy2⟩ : ∃ y, y = udpP 203 0 113 7 8 8 (IntKind.wrap IntKind.u8 (Int.fdiv (x 0) (256 : Int))) (IntKind.wrap IntKind.u8 (x 0)) 40000 53 [120] := ⟨_, rfl⟩
  obtain ⟨l2, k2, n2, fr2, tp2, d2, s2⟩ := udpP_facts (n := 9) hy2 rfl ⟨by omega, by omega⟩ ⟨by omega, by omega⟩ (by decide)
  obtain ⟨ys3, hy3⟩ : ∃ y, y = udpP 10 0 0 (IntKind.wrap IntKind.u8 b) 8 8 (IntKind.wrap IntKind.u8 (Int.fdiv (x 0) (256 : Int))) (IntKind.wrap IntKind.u8 (x 0)) port 53 [120] := ⟨_, rfl⟩
  obtain ⟨l3, k3, n3, fr3, tp3, d3, s3⟩ := udpP_facts (n := 9) hy3 rfl ⟨by omega, by omega⟩ ⟨by omega, by omega⟩ (by decide)
  obtain ⟨ys4, hy4⟩ : ∃ y, y = udpP 203 0 113 7 8 8 (IntKind.wrap IntKind.u8 (Int.fdiv (x 0) (256 : Int))) (IntKind.wrap IntKind.u8 (x 0)) 40001 53 [120] := ⟨_, rfl⟩
  obtain ⟨l4, k4, n4, fr4, tp4, d4, s4⟩ := udpP_facts (n := 9) hy4 rfl ⟨by omega, by omega⟩ ⟨by omega, by omega⟩ (by decide)
  refine stepXS_ok kU_ok (ends_eq a b port n x ys1 ys2 ys3 ys4) ?_
  repeat' (first | exact allNil | refine allCons ?_ ?_ | (with_reducible refine allRp _ ?_ ?_))
  all_goals (first | (with_reducible assumption) | ((try simp only [l1, k1, n1, fr1, tp1, d1, l2, k2, n2, fr2, tp2, d2, l3, k3, n3, fr3, tp3, d3, l4, k4, n4, fr4, tp4, d4, Nat.add_sub_cancel_left, List.take_length, List.length_cons, List.length_nil, Nat.reduceSub, Nat.reduceAdd, Nat.zero_add, List.take_succ_cons, List.take_zero]) <;> (first | (with_reducible exact True.intro) | (with_reducible rfl) | (with_reducible assumption) | (with_reducible exact hy1.symm) | (with_reducible exact hy2.symm) | (with_reducible exact hy3.symm) | (with_reducible exact hy4.symm) | (with_reducible exact Or.inr s1) | (with_reducible exact Or.inr s2) | (with_reducible exact Or.inr s3) | (with_reducible exact Or.inr s4) | (exact byte8 (by omega) (by omega) (by omega) (by omega) (by omega) (by omega) (by omega) (by omega)) | (exact decide_eq_false (by omega)) | (exact decide_eq_true (by omega)) | (with_reducible exact hne) | (with_reducible exact hne.symm) | (exact up _ (by omega)) | (exact nb_t hne) | (rw [hl]; with_reducible exact hy2.symm) | omega | (simp; done) | (simp; omega) | (simp (disch := first | omega | (simp; omega)) [str_toList, wu8, isB, lo8_raw, fd256, fd65536, w64, sameO_iff, take_len, List.length_take, List.length_drop]; done) | (simp (disch := first | omega | (simp; omega)) [str_toList, wu8, isB, lo8_raw, fd256, fd65536, w64, sameO_iff, take_len, List.length_take, List.length_drop]; omega))))

theorem hi (a b port : Int) (n : Nat) (x : Nat → Int) (ha : 0 ≤ a ∧ a ≤ 255) (hb : 0 ≤ b ∧ b ≤ 255) (hab : a ≠ b) (hp : 1 ≤ port ∧ port ≤ 65535) (hn : n ≤ 40) (hn0 : 0 < n) (hl : 40000 < port) :
    EvX Try.prog 0 (loopAt Try.prog 10 8) ((ndG0 a b port n x).st 0) .normal ((ndG1 a b port n x port 40000 1).st 0) := by
  have ba := wu8_lo a
  have ba2 := wu8_hi a
  have bb := wu8_lo b
  have bb2 := wu8_hi b
  have bx := wu8_lo (Int.fdiv (x 0) (256 : Int))
  have bx2 := wu8_hi (Int.fdiv (x 0) (256 : Int))
  have by1 := wu8_lo (x 0)
  have by2 := wu8_hi (x 0)
  have hne : IntKind.wrap IntKind.u8 a ≠ IntKind.wrap IntKind.u8 b := by rw [wu8, wu8]; omega
  obtain ⟨ys1, hy1⟩ : ∃ y, y = udpP 10 0 0 (IntKind.wrap IntKind.u8 a) 8 8 (IntKind.wrap IntKind.u8 (Int.fdiv (x 0) (256 : Int))) (IntKind.wrap IntKind.u8 (x 0)) port 53 [120] := ⟨_, rfl⟩
  obtain ⟨l1, k1, n1, fr1, tp1, d1, s1⟩ := udpP_facts (n := 9) hy1 rfl ⟨by omega, by omega⟩ ⟨by omega, by omega⟩ (by decide)
  obtain ⟨ys2, hy2⟩ : ∃ y, y = udpP 203 0 113 7 8 8 (IntKind.wrap IntKind.u8 (Int.fdiv (x 0) (256 : Int))) (IntKind.wrap IntKind.u8 (x 0)) port 53 [120] := ⟨_, rfl⟩
  obtain ⟨l2, k2, n2, fr2, tp2, d2, s2⟩ := udpP_facts (n := 9) hy2 rfl ⟨by omega, by omega⟩ ⟨by omega, by omega⟩ (by decide)
  obtain ⟨ys3, hy3⟩ : ∃ y, y = udpP 10 0 0 (IntKind.wrap IntKind.u8 b) 8 8 (IntKind.wrap IntKind.u8 (Int.fdiv (x 0) (256 : Int))) (IntKind.wrap IntKind.u8 (x 0)) port 53 [120] := ⟨_, rfl⟩
  obtain ⟨l3, k3, n3, fr3, tp3, d3, s3⟩ := udpP_facts (n := 9) hy3 rfl ⟨by omega, by omega⟩ ⟨by omega, by omega⟩ (by decide)
  obtain ⟨ys4, hy4⟩ : ∃ y, y = udpP 203 0 113 7 8 8 (IntKind.wrap IntKind.u8 (Int.fdiv (x 0) (256 : Int))) (IntKind.wrap IntKind.u8 (x 0)) 40000 53 [120] := ⟨_, rfl⟩
  obtain ⟨l4, k4, n4, fr4, tp4, d4, s4⟩ := udpP_facts (n := 9) hy4 rfl ⟨by omega, by omega⟩ ⟨by omega, by omega⟩ (by decide)
  refine stepXS_ok kU_ok (ends_hi a b port n x ys1 ys2 ys3 ys4) ?_
  repeat' (first | exact allNil | refine allCons ?_ ?_ | (with_reducible refine allRp _ ?_ ?_))
  all_goals (first | (with_reducible assumption) | ((try simp only [l1, k1, n1, fr1, tp1, d1, l2, k2, n2, fr2, tp2, d2, l3, k3, n3, fr3, tp3, d3, l4, k4, n4, fr4, tp4, d4, Nat.add_sub_cancel_left, List.take_length, List.length_cons, List.length_nil, Nat.reduceSub, Nat.reduceAdd, Nat.zero_add, List.take_succ_cons, List.take_zero]) <;> (first | (with_reducible exact True.intro) | (with_reducible rfl) | (with_reducible assumption) | (with_reducible exact hy1.symm) | (with_reducible exact hy2.symm) | (with_reducible exact hy3.symm) | (with_reducible exact hy4.symm) | (with_reducible exact Or.inr s1) | (with_reducible exact Or.inr s2) | (with_reducible exact Or.inr s3) | (with_reducible exact Or.inr s4) | (exact byte8 (by omega) (by omega) (by omega) (by omega) (by omega) (by omega) (by omega) (by omega)) | (exact decide_eq_false (by omega)) | (exact decide_eq_true (by omega)) | (with_reducible exact hne) | (with_reducible exact hne.symm) | (exact up _ (by omega)) | (exact nb_t hne) | omega | (simp; done) | (simp; omega) | (simp (disch := first | omega | (simp; omega)) [str_toList, wu8, isB, lo8_raw, fd256, fd65536, w64, sameO_iff, take_len, List.length_take, List.length_drop]; done) | (simp (disch := first | omega | (simp; omega)) [str_toList, wu8, isB, lo8_raw, fd256, fd65536, w64, sameO_iff, take_len, List.length_take, List.length_drop]; omega))))

theorem next (a b port : Int) (n : Nat) (x : Nat → Int) (ha : 0 ≤ a ∧ a ≤ 255) (hb : 0 ≤ b ∧ b ≤ 255) (hab : a ≠ b) (hp : 1 ≤ port ∧ port ≤ 65535) (hn : n ≤ 40) (c d : Int) (i : Nat) (hi : i < n) (hc : 0 ≤ c ∧ c ≤ 65535) (hd : 0 ≤ d ∧ d ≤ 65535) (hcd : c ≠ d) :
    EvX Try.prog 0 (loopAt Try.prog 10 8) ((ndG1 a b port n x c d i).st 0) .normal ((ndG1 a b port n x c d (i + 1)).st 0) := by
  have ba := wu8_lo a
  have ba2 := wu8_hi a
  have bb := wu8_lo b
  have bb2 := wu8_hi b
  have bx := wu8_lo (Int.fdiv (x i) (256 : Int))
  have bx2 := wu8_hi (Int.fdiv (x i) (256 : Int))
  have by1 := wu8_lo (x i)
  have by2 := wu8_hi (x i)
  have hne : IntKind.wrap IntKind.u8 a ≠ IntKind.wrap IntKind.u8 b := by rw [wu8, wu8]; omega
  obtain ⟨ys1, hy1⟩ : ∃ y, y = udpP 10 0 0 (IntKind.wrap IntKind.u8 a) 8 8 (IntKind.wrap IntKind.u8 (Int.fdiv (x i) (256 : Int))) (IntKind.wrap IntKind.u8 (x i)) port 53 [120] := ⟨_, rfl⟩
  obtain ⟨l1, k1, n1, fr1, tp1, d1, s1⟩ := udpP_facts (n := 9) hy1 rfl ⟨by omega, by omega⟩ ⟨by omega, by omega⟩ (by decide)
  obtain ⟨ys2, hy2⟩ : ∃ y, y = udpP 203 0 113 7 8 8 (IntKind.wrap IntKind.u8 (Int.fdiv (x i) (256 : Int))) (IntKind.wrap IntKind.u8 (x i)) c 53 [120] := ⟨_, rfl⟩
  obtain ⟨l2, k2, n2, fr2, tp2, d2, s2⟩ := udpP_facts (n := 9) hy2 rfl ⟨by omega, by omega⟩ ⟨by omega, by omega⟩ (by decide)
  obtain ⟨ys3, hy3⟩ : ∃ y, y = udpP 10 0 0 (IntKind.wrap IntKind.u8 b) 8 8 (IntKind.wrap IntKind.u8 (Int.fdiv (x i) (256 : Int))) (IntKind.wrap IntKind.u8 (x i)) port 53 [120] := ⟨_, rfl⟩
  obtain ⟨l3, k3, n3, fr3, tp3, d3, s3⟩ := udpP_facts (n := 9) hy3 rfl ⟨by omega, by omega⟩ ⟨by omega, by omega⟩ (by decide)
  obtain ⟨ys4, hy4⟩ : ∃ y, y = udpP 203 0 113 7 8 8 (IntKind.wrap IntKind.u8 (Int.fdiv (x i) (256 : Int))) (IntKind.wrap IntKind.u8 (x i)) d 53 [120] := ⟨_, rfl⟩
  obtain ⟨l4, k4, n4, fr4, tp4, d4, s4⟩ := udpP_facts (n := 9) hy4 rfl ⟨by omega, by omega⟩ ⟨by omega, by omega⟩ (by decide)
  refine stepXS_ok (kUO_ok 500) (ends_next a b port n x c d i ys1 ys2 ys3 ys4) ?_
  repeat' (first | exact allNil | refine allCons ?_ ?_ | (with_reducible refine allRp _ ?_ ?_))
  all_goals (first | (with_reducible assumption) | ((try simp only [l1, k1, n1, fr1, tp1, d1, l2, k2, n2, fr2, tp2, d2, l3, k3, n3, fr3, tp3, d3, l4, k4, n4, fr4, tp4, d4, Nat.add_sub_cancel_left, List.take_length, List.length_cons, List.length_nil, Nat.reduceSub, Nat.reduceAdd, Nat.zero_add, List.take_succ_cons, List.take_zero, ← hy2, ← hy4]) <;> (first | (with_reducible exact True.intro) | (with_reducible rfl) | (with_reducible assumption) | (with_reducible exact hy1.symm) | (with_reducible exact hy2.symm) | (with_reducible exact hy3.symm) | (with_reducible exact hy4.symm) | (with_reducible exact Or.inr s1) | (with_reducible exact Or.inr s2) | (with_reducible exact Or.inr s3) | (with_reducible exact Or.inr s4) | (exact byte8 (by omega) (by omega) (by omega) (by omega) (by omega) (by omega) (by omega) (by omega)) | (exact decide_eq_false (by omega)) | (exact decide_eq_true (by omega)) | (with_reducible exact hne) | (with_reducible exact hne.symm) | (exact up _ (by omega)) | (exact nb_t hne) | omega | (simp; done) | (simp; omega) | (simp (disch := first | omega | (simp; omega)) [str_toList, wu8, isB, lo8_raw, fd256, fd65536, w64, sameO_iff, take_len, List.length_take, List.length_drop]; done) | (simp (disch := first | omega | (simp; omega)) [str_toList, wu8, isB, lo8_raw, fd256, fd65536, w64, sameO_iff, take_len, List.length_take, List.length_drop]; omega))))

end Go.Proofs.Ytecmagdefllihaa.natEnds
