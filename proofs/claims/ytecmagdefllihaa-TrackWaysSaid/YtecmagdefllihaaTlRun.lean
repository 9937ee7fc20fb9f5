/- TrackWays: its rounds. (Printed by wip/tools/gen.py from wip/sym/XSTl.lean.) -/
import Derived.Test.YtecmagdefllihaaTk2
namespace Go.Proofs.Ytecmagdefllihaa
open Go.RowKit

set_option maxRecDepth 100000 in
theorem ways_many (n : Nat) (x : Nat → Int) : outT kW0 [(5, { br := [(14, true)] })] Try.prog 5 [AV.view 1 n fun k => [AV.val (Value.int IntKind.i64 (x k))]] [] 0 =
   some (AV.val (Value.bool true), [], 7,
   (decide ((↑n : Int) > (100 : Int)) = true) :: []) := by kernel_rfl

set_option maxRecDepth 100000 in
theorem ways_top (n : Nat) (x : Nat → Int) : outXS kW0 [(5, { br := [(14, false)] })] Try.prog 5 [AV.view 1 n fun k => [AV.val (Value.int IntKind.i64 (x k))]] [] 0 [] [(8, wL [22, 41] n x)] =
   some (AV.val (Value.bool true), [], 1,
   (decide ((↑n : Int) > (100 : Int)) = false) ::
   ((AV.view 1 n fun k => [AV.val (Value.int IntKind.i64 (x k))]) = AV.view 1 n fun i => [AV.val (Value.int IntKind.i64 (x i))]) ::
   (AV.val (Value.int IntKind.i64 (0 : Int)) = AV.val (Value.int IntKind.i64 (0 : Int))) ::
   (EvXL Try.prog 0 (loopAt Try.prog 5 8) (GoalX.st (LoopX.G (wL [22, 41] n x)) 0) (LoopX.ex (wL [22, 41] n x)) (GoalX.st (LoopX.E (wL [22, 41] n x)) 0)) :: []) := by kernel_rfl

set_option maxRecDepth 100000 in
theorem ways_00 (n : Nat) (x : Nat → Int) (i : Nat) : stepXS kW0 [(5, { br := [(26, true)], ob := [(10, 2), (11, 2)] })] Try.prog 5 8 (wG0 n x i) (wG0 n x (i + 1)) [0, 1] 0 [] =
   some (.normal,
   (decide ((↑i : Int) < (↑n : Int)) = true) ::
   rp 2 ((0 : Int) ≤ (↑i : Int) ∧ (↑i : Int) < (↑n : Int)) (
   rp 2 (bits BinOp.and IntKind.i64 (bits BinOp.and IntKind.i64 (x i) (63 : Int)) (4 : Int) = (0 : Int) → bits BinOp.and IntKind.i64 (bits BinOp.and IntKind.i64 (x i) (63 : Int)) (18 : Int) ≠ (2 : Int)) (
   ((AV.view 1 n fun k => [AV.val (Value.int IntKind.i64 (x k))]) = AV.view 1 n fun i => [AV.val (Value.int IntKind.i64 (x i))]) ::
   (AV.val (Value.int IntKind.i64 (IntKind.wrap IntKind.i64 ((↑i : Int) + (1 : Int)))) = AV.val (Value.int IntKind.i64 (↑(i + 1) : Int))) :: []))) := by kernel_rfl

set_option maxRecDepth 100000 in
theorem ways_01 (n : Nat) (x : Nat → Int) (i : Nat) : stepXS kW1 [(5, { br := [(26, true)], ob := [(10, 2), (11, 2)] })] Try.prog 5 8 (wG0 n x i) (wG1 n x (i + 1) (1 : Int) (in64 (x i))) [0, 109, 1, 190] 0 [] =
   some (.normal,
   (decide ((↑i : Int) < (↑n : Int)) = true) ::
   rp 2 ((0 : Int) ≤ (↑i : Int) ∧ (↑i : Int) < (↑n : Int)) (
   (bits BinOp.and IntKind.i64 (bits BinOp.and IntKind.i64 (x i) (63 : Int)) (4 : Int) = (0 : Int)) ::
   (bits BinOp.and IntKind.i64 (bits BinOp.and IntKind.i64 (x i) (63 : Int)) (18 : Int) = (2 : Int)) ::
   (bits BinOp.and IntKind.i64 (bits BinOp.and IntKind.i64 (x i) (63 : Int)) (4 : Int) = (0 : Int)) ::
   (bits BinOp.and IntKind.i64 (bits BinOp.and IntKind.i64 (x i) (63 : Int)) (18 : Int) = (2 : Int)) ::
   ((AV.view 1 n fun k => [AV.val (Value.int IntKind.i64 (x k))]) = AV.view 1 n fun i => [AV.val (Value.int IntKind.i64 (x i))]) ::
   (AV.val (Value.int IntKind.i64 (IntKind.wrap IntKind.i64 ((↑i : Int) + (1 : Int)))) = AV.val (Value.int IntKind.i64 (↑(i + 1) : Int))) ::
   (SameO (some { t := 92, sz := 8, exact := false, fz := false, body := Body.rows [[AV.val (Value.int IntKind.i64 (1 : Int)), AV.val (Value.int IntKind.u8 (8 : Int)), AV.val (Value.int IntKind.u8 (8 : Int)), AV.val (Value.int IntKind.u8 (8 : Int)), AV.val (Value.int IntKind.u8 (1 : Int)), AV.val (Value.int IntKind.i64 (1 : Int)), AV.val (Value.int IntKind.i64 (1 : Int)), AV.val (Value.bool (bits BinOp.and IntKind.i64 (x i) (64 : Int) != (0 : Int)))]] }) { t := 92, sz := 8, exact := false, fz := false, body := Body.rows [[AV.val (Value.int IntKind.i64 (1 : Int)), AV.val (Value.int IntKind.u8 (8 : Int)), AV.val (Value.int IntKind.u8 (8 : Int)), AV.val (Value.int IntKind.u8 (8 : Int)), AV.val (Value.int IntKind.u8 (1 : Int)), AV.val (Value.int IntKind.i64 (1 : Int)), AV.val (Value.int IntKind.i64 (1 : Int)), AV.val (Value.bool (bits BinOp.and IntKind.i64 (x i) (64 : Int) != (0 : Int)))]] }) ::
   (SameO (some { t := 92, sz := 8, exact := false, fz := false, body := Body.rows [[AV.val (Value.int IntKind.i64 (1 : Int)), AV.val (Value.int IntKind.u8 (8 : Int)), AV.val (Value.int IntKind.u8 (8 : Int)), AV.val (Value.int IntKind.u8 (8 : Int)), AV.val (Value.int IntKind.u8 (1 : Int)), AV.val (Value.int IntKind.i64 (1 : Int)), AV.val (Value.int IntKind.i64 (1 : Int)), AV.val (Value.bool !bits BinOp.and IntKind.i64 (x i) (64 : Int) != (0 : Int))]] }) { t := 92, sz := 8, exact := false, fz := false, body := Body.rows [[AV.val (Value.int IntKind.i64 (1 : Int)), AV.val (Value.int IntKind.u8 (8 : Int)), AV.val (Value.int IntKind.u8 (8 : Int)), AV.val (Value.int IntKind.u8 (8 : Int)), AV.val (Value.int IntKind.u8 (1 : Int)), AV.val (Value.int IntKind.i64 (1 : Int)), AV.val (Value.int IntKind.i64 (1 : Int)), AV.val (Value.bool !bits BinOp.and IntKind.i64 (x i) (64 : Int) != (0 : Int))]] }) :: [])) := by kernel_rfl

set_option maxRecDepth 100000 in
theorem ways_11 (n : Nat) (x : Nat → Int) (i : Nat) (st : Int) (inw : Bool) : stepXS kW0 [(5, { br := [(26, true), (52, false)], ob := [(10, 2), (11, 2), (12, 4), (12, 10)] })] Try.prog 5 8 (wG1 n x i st inw) (wG1 n x (i + 1) (nxS st inw (in64 (x i)) (fl63 (x i))) (nxI st inw (in64 (x i)) (fl63 (x i)))) [0, 1, 2, 3] 0 [] =
   some (.normal,
   (decide ((↑i : Int) < (↑n : Int)) = true) ::
   rp 2 ((0 : Int) ≤ (↑i : Int) ∧ (↑i : Int) < (↑n : Int)) (
   ((nxS st inw (bits BinOp.and IntKind.i64 (x i) (64 : Int) != (0 : Int)) (bits BinOp.and IntKind.i64 (x i) (63 : Int)) != nxS st (!inw) (!bits BinOp.and IntKind.i64 (x i) (64 : Int) != (0 : Int)) (bits BinOp.and IntKind.i64 (x i) (63 : Int))) = false) ::
   ((AV.view 1 n fun k => [AV.val (Value.int IntKind.i64 (x k))]) = AV.view 1 n fun i => [AV.val (Value.int IntKind.i64 (x i))]) ::
   (AV.val (Value.int IntKind.i64 (IntKind.wrap IntKind.i64 ((↑i : Int) + (1 : Int)))) = AV.val (Value.int IntKind.i64 (↑(i + 1) : Int))) ::
   (SameO (some { t := 92, sz := 8, exact := false, fz := false, body := Body.rows [[AV.val (Value.int IntKind.i64 (1 : Int)), AV.val (Value.int IntKind.u8 (8 : Int)), AV.val (Value.int IntKind.u8 (8 : Int)), AV.val (Value.int IntKind.u8 (8 : Int)), AV.val (Value.int IntKind.u8 (1 : Int)), AV.val (Value.int IntKind.i64 (1 : Int)), AV.val (Value.int IntKind.i64 (nxS st inw (bits BinOp.and IntKind.i64 (x i) (64 : Int) != (0 : Int)) (bits BinOp.and IntKind.i64 (x i) (63 : Int)))), AV.val (Value.bool (nxI st inw (bits BinOp.and IntKind.i64 (x i) (64 : Int) != (0 : Int)) (bits BinOp.and IntKind.i64 (x i) (63 : Int))))]] }) { t := 92, sz := 8, exact := false, fz := false, body := Body.rows [[AV.val (Value.int IntKind.i64 (1 : Int)), AV.val (Value.int IntKind.u8 (8 : Int)), AV.val (Value.int IntKind.u8 (8 : Int)), AV.val (Value.int IntKind.u8 (8 : Int)), AV.val (Value.int IntKind.u8 (1 : Int)), AV.val (Value.int IntKind.i64 (1 : Int)), AV.val (Value.int IntKind.i64 (nxS st inw (bits BinOp.and IntKind.i64 (x i) (64 : Int) != (0 : Int)) (bits BinOp.and IntKind.i64 (x i) (63 : Int)))), AV.val (Value.bool (nxI st inw (bits BinOp.and IntKind.i64 (x i) (64 : Int) != (0 : Int)) (bits BinOp.and IntKind.i64 (x i) (63 : Int))))]] }) ::
   (SameO (some { t := 92, sz := 8, exact := false, fz := false, body := Body.rows [[AV.val (Value.int IntKind.i64 (1 : Int)), AV.val (Value.int IntKind.u8 (8 : Int)), AV.val (Value.int IntKind.u8 (8 : Int)), AV.val (Value.int IntKind.u8 (8 : Int)), AV.val (Value.int IntKind.u8 (1 : Int)), AV.val (Value.int IntKind.i64 (1 : Int)), AV.val (Value.int IntKind.i64 (nxS st (!inw) (!bits BinOp.and IntKind.i64 (x i) (64 : Int) != (0 : Int)) (bits BinOp.and IntKind.i64 (x i) (63 : Int)))), AV.val (Value.bool (nxI st (!inw) (!bits BinOp.and IntKind.i64 (x i) (64 : Int) != (0 : Int)) (bits BinOp.and IntKind.i64 (x i) (63 : Int))))]] }) { t := 92, sz := 8, exact := false, fz := false, body := Body.rows [[AV.val (Value.int IntKind.i64 (1 : Int)), AV.val (Value.int IntKind.u8 (8 : Int)), AV.val (Value.int IntKind.u8 (8 : Int)), AV.val (Value.int IntKind.u8 (8 : Int)), AV.val (Value.int IntKind.u8 (1 : Int)), AV.val (Value.int IntKind.i64 (1 : Int)), AV.val (Value.int IntKind.i64 (nxS st inw (bits BinOp.and IntKind.i64 (x i) (64 : Int) != (0 : Int)) (bits BinOp.and IntKind.i64 (x i) (63 : Int)))), AV.val (Value.bool !nxI st inw (bits BinOp.and IntKind.i64 (x i) (64 : Int) != (0 : Int)) (bits BinOp.and IntKind.i64 (x i) (63 : Int)))]] }) :: [])) := by kernel_rfl

set_option maxRecDepth 100000 in
theorem ways_end (n : Nat) (x : Nat → Int) (i : Nat) : stepXS kW0 [(5, { br := [(26, false)] })] Try.prog 5 8 (wG0 n x i) (wE) [] 0 [] =
   some (.exit 0,
   (decide ((↑i : Int) < (↑n : Int)) = false) :: []) := by kernel_rfl

set_option maxRecDepth 100000 in
theorem ways_end1 (n : Nat) (x : Nat → Int) (i : Nat) (st : Int) (inw : Bool) : stepXS kW0 [(5, { br := [(26, false)] })] Try.prog 5 8 (wG1 n x i st inw) (wE) [] 0 [] =
   some (.exit 0,
   (decide ((↑i : Int) < (↑n : Int)) = false) :: []) := by kernel_rfl
end Go.Proofs.Ytecmagdefllihaa
