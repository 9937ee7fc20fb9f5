/- The law NatLives, reckoned on each of its ways. (Printed by wip/tools/gen.py from wip/sym/XSNl.lean.) -/
import Derived.Test.YtecmagdefllihaaTm
namespace Go.Proofs.Ytecmagdefllihaa
open Go.RowKit

set_option maxRecDepth 100000 in
theorem natLives_a1 (how : Int) (later : Int) : outT kTT [(11, { op := [(3, 5, .br true)], gd := [(3, 3, true), (3, 4, true)] })] Try.prog 11 [AV.val (Value.int IntKind.i64 how), AV.val (Value.int IntKind.i64 later)] [] 0 =
   some (AV.val (Value.bool true), [], 18,
   rp 3 (decide (how < (0 : Int)) = true) ( [])) := by kernel_rfl

set_option maxRecDepth 100000 in
theorem natLives_a2 (how : Int) (later : Int) : outT kTT [(11, { op := [(3, 5, .br false), (3, 9, .br true)], gd := [(3, 3, false), (3, 4, false), (3, 7, true), (3, 8, true)] })] Try.prog 11 [AV.val (Value.int IntKind.i64 how), AV.val (Value.int IntKind.i64 later)] [] 0 =
   some (AV.val (Value.bool true), [], 18,
   rp 3 (decide (how < (0 : Int)) = false) (
   rp 3 (decide (how > (2 : Int)) = true) ( []))) := by kernel_rfl

set_option maxRecDepth 100000 in
theorem natLives_b1 (how : Int) (later : Int) : outT kTT [(11, { op := [(3, 5, .br false), (3, 9, .br false), (3, 13, .br true)], gd := [(3, 3, false), (3, 4, false), (3, 7, false), (3, 8, false), (3, 11, true), (3, 12, true)] })] Try.prog 11 [AV.val (Value.int IntKind.i64 how), AV.val (Value.int IntKind.i64 later)] [] 0 =
   some (AV.val (Value.bool true), [], 18,
   rp 3 (decide (how < (0 : Int)) = false) (
   rp 3 (decide (how > (2 : Int)) = false) (
   rp 3 (decide (later < (0 : Int)) = true) ( [])))) := by kernel_rfl

set_option maxRecDepth 100000 in
theorem natLives_b2 (how : Int) (later : Int) : outT kTT [(11, { op := [(3, 5, .br false), (3, 9, .br false), (3, 13, .br false)], gd := [(3, 3, false), (3, 4, false), (3, 7, false), (3, 8, false), (3, 11, false), (3, 12, false)], br := [(25, true)] })] Try.prog 11 [AV.val (Value.int IntKind.i64 how), AV.val (Value.int IntKind.i64 later)] [] 0 =
   some (AV.val (Value.bool true), [], 18,
   rp 3 (decide (how < (0 : Int)) = false) (
   rp 3 (decide (how > (2 : Int)) = false) (
   rp 3 (decide (later < (0 : Int)) = false) (
   (decide (later > (8000 : Int)) = true) :: [])))) := by kernel_rfl

set_option maxRecDepth 100000 in
theorem natLives_s0 (how : Int) (later : Int) : outT kTT [(93, { br := [(16, true)], ob := [(4, 5)] }),
   (11, { op := [(3, 5, .br false), (3, 9, .br false), (3, 13, .br false), (13, 6, .br false)], gd := [(3, 3, false), (3, 4, false), (3, 7, false), (3, 8, false), (3, 11, false), (3, 12, false), (13, 3, false), (13, 4, false), (13, 5, false)], br := [(25, false), (34, false)], ob := [(15, 2)] }),
   (35, { ob := [(1, 5), (1, 6)] }),
   (64, { ob := [(1, 5)] })] Try.prog 11 [AV.val (Value.int IntKind.i64 how), AV.val (Value.int IntKind.i64 later)] [] 0 =
   some (AV.val (Value.bool (true == decide (later < (240 : Int)))), [], 2654,
   rp 3 (decide (how < (0 : Int)) = false) (
   rp 3 (decide (how > (2 : Int)) = false) (
   rp 3 (decide (later < (0 : Int)) = false) (
   (decide (later > (8000 : Int)) = false) ::
   (32 ≤ 32) ::
   (32 ≤ 100000000) ::
   (32 ≤ 32) ::
   (32 ≤ 100000000) ::
   (2 ≤ 20) ::
   (20 ≤ 20) ::
   (2 ≤ 18) ::
   (20 ≤ 20) ::
   (4 ≤ 16) ::
   (20 ≤ 20) ::
   (4 ≤ 12) ::
   (20 ≤ 20) ::
   (2 ≤ 8) ::
   (20 ≤ 20) ::
   (2 ≤ 6) ::
   (20 ≤ 20) ::
   (2 ≤ 4) ::
   (20 ≤ 20) ::
   (2 ≤ 2) ::
   (20 ≤ 20) ::
   (true = true) ::
   (32 ≤ 32) ::
   (32 ≤ 100000000) ::
   (decide (how > (0 : Int)) = false) ::
   rp 4 ((how == (2 : Int)) = false) (
   (decide (tmW (0 : Int) later < (240 : Int)) = true) :: []))))) := by kernel_rfl

set_option maxRecDepth 100000 in
theorem natLives_l0 (how : Int) (later : Int) : outS kTT [(11, { op := [(3, 5, .br false), (3, 9, .br false), (3, 13, .br false), (13, 6, .br false)], gd := [(3, 3, false), (3, 4, false), (3, 7, false), (3, 8, false), (3, 11, false), (3, 12, false), (13, 3, false), (13, 4, false), (13, 5, false)], br := [(25, false), (34, false)], ob := [(15, 2)] }),
   (35, { ob := [(1, 5), (1, 6)] }),
   (2593000093, { br := [(16, false)], ob := [(4, 5)] }),
   (64, { ob := [(1, 5)] })] Try.prog 11 [AV.val (Value.int IntKind.i64 how), AV.val (Value.int IntKind.i64 later)] [] 0 =
   some (AV.val (Value.bool (false == decide (later < (240 : Int)))), [], 2650,
   rp 3 (decide (how < (0 : Int)) = false) (
   rp 3 (decide (how > (2 : Int)) = false) (
   rp 3 (decide (later < (0 : Int)) = false) (
   (decide (later > (8000 : Int)) = false) ::
   (32 ≤ 32) ::
   (32 ≤ 100000000) ::
   (32 ≤ 32) ::
   (32 ≤ 100000000) ::
   (2 ≤ 20) ::
   (20 ≤ 20) ::
   (2 ≤ 18) ::
   (20 ≤ 20) ::
   (4 ≤ 16) ::
   (20 ≤ 20) ::
   (4 ≤ 12) ::
   (20 ≤ 20) ::
   (2 ≤ 8) ::
   (20 ≤ 20) ::
   (2 ≤ 6) ::
   (20 ≤ 20) ::
   (2 ≤ 4) ::
   (20 ≤ 20) ::
   (2 ≤ 2) ::
   (20 ≤ 20) ::
   (32 ≤ 32) ::
   (32 ≤ 100000000) ::
   (decide (how > (0 : Int)) = false) ::
   rp 4 ((how == (2 : Int)) = false) (
   (decide (tmW (0 : Int) later < (240 : Int)) = false) :: []))))) := by kernel_rfl

set_option maxRecDepth 100000 in
theorem natLives_s1 (how : Int) (later : Int) : outT kTT [(93, { br := [(16, true)], ob := [(4, 5)] }),
   (11, { op := [(3, 5, .br false), (3, 9, .br false), (3, 13, .br false), (13, 6, .br false)], gd := [(3, 3, false), (3, 4, false), (3, 7, false), (3, 8, false), (3, 11, false), (3, 12, false), (13, 3, false), (13, 4, false), (13, 5, false)], br := [(25, false), (34, true)], ob := [(15, 2)] }),
   (35, { ob := [(1, 5), (1, 6)] }),
   (64, { ob := [(1, 5)] })] Try.prog 11 [AV.val (Value.int IntKind.i64 how), AV.val (Value.int IntKind.i64 later)] [] 0 =
   some (AV.val (Value.bool (true == decide (later < (7200 : Int)))), [], 7381,
   rp 3 (decide (how < (0 : Int)) = false) (
   rp 3 (decide (how > (2 : Int)) = false) (
   rp 3 (decide (later < (0 : Int)) = false) (
   (decide (later > (8000 : Int)) = false) ::
   (32 ≤ 32) ::
   (32 ≤ 100000000) ::
   (32 ≤ 32) ::
   (32 ≤ 100000000) ::
   (2 ≤ 20) ::
   (20 ≤ 20) ::
   (2 ≤ 18) ::
   (20 ≤ 20) ::
   (4 ≤ 16) ::
   (20 ≤ 20) ::
   (4 ≤ 12) ::
   (20 ≤ 20) ::
   (2 ≤ 8) ::
   (20 ≤ 20) ::
   (2 ≤ 6) ::
   (20 ≤ 20) ::
   (2 ≤ 4) ::
   (20 ≤ 20) ::
   (2 ≤ 2) ::
   (20 ≤ 20) ::
   (true = true) ::
   (32 ≤ 32) ::
   (32 ≤ 100000000) ::
   (decide (how > (0 : Int)) = true) ::
   (32 ≤ 32) ::
   (32 ≤ 100000000) ::
   (32 ≤ 32) ::
   (32 ≤ 100000000) ::
   (2 ≤ 20) ::
   (20 ≤ 20) ::
   (2 ≤ 18) ::
   (20 ≤ 20) ::
   (4 ≤ 16) ::
   (20 ≤ 20) ::
   (4 ≤ 12) ::
   (20 ≤ 20) ::
   (2 ≤ 8) ::
   (20 ≤ 20) ::
   (2 ≤ 6) ::
   (20 ≤ 20) ::
   (2 ≤ 4) ::
   (20 ≤ 20) ::
   (2 ≤ 2) ::
   (20 ≤ 20) ::
   rp 2 (true = true) (
   (32 ≤ 32) ::
   (32 ≤ 100000000) ::
   (32 ≤ 32) ::
   (32 ≤ 100000000) ::
   (32 ≤ 32) ::
   (32 ≤ 100000000) ::
   (2 ≤ 20) ::
   (20 ≤ 20) ::
   (2 ≤ 18) ::
   (20 ≤ 20) ::
   (4 ≤ 16) ::
   (20 ≤ 20) ::
   (4 ≤ 12) ::
   (20 ≤ 20) ::
   (2 ≤ 8) ::
   (20 ≤ 20) ::
   (2 ≤ 6) ::
   (20 ≤ 20) ::
   (2 ≤ 4) ::
   (20 ≤ 20) ::
   (2 ≤ 2) ::
   (20 ≤ 20) ::
   (true = true) ::
   (32 ≤ 32) ::
   (32 ≤ 100000000) ::
   rp 4 ((how == (2 : Int)) = false) (
   (decide (tmW (0 : Int) later < (7200 : Int)) = true) :: [])))))) := by kernel_rfl

set_option maxRecDepth 100000 in
theorem natLives_l1 (how : Int) (later : Int) : outS kTT [(11, { op := [(3, 5, .br false), (3, 9, .br false), (3, 13, .br false), (13, 6, .br false)], gd := [(3, 3, false), (3, 4, false), (3, 7, false), (3, 8, false), (3, 11, false), (3, 12, false), (13, 3, false), (13, 4, false), (13, 5, false)], br := [(25, false), (34, true)], ob := [(15, 2)] }),
   (35, { ob := [(1, 5), (1, 6)] }),
   (7320000093, { br := [(16, false)], ob := [(4, 5)] }),
   (64, { ob := [(1, 5)] })] Try.prog 11 [AV.val (Value.int IntKind.i64 how), AV.val (Value.int IntKind.i64 later)] [] 0 =
   some (AV.val (Value.bool (false == decide (later < (7200 : Int)))), [], 7377,
   rp 3 (decide (how < (0 : Int)) = false) (
   rp 3 (decide (how > (2 : Int)) = false) (
   rp 3 (decide (later < (0 : Int)) = false) (
   (decide (later > (8000 : Int)) = false) ::
   (32 ≤ 32) ::
   (32 ≤ 100000000) ::
   (32 ≤ 32) ::
   (32 ≤ 100000000) ::
   (2 ≤ 20) ::
   (20 ≤ 20) ::
   (2 ≤ 18) ::
   (20 ≤ 20) ::
   (4 ≤ 16) ::
   (20 ≤ 20) ::
   (4 ≤ 12) ::
   (20 ≤ 20) ::
   (2 ≤ 8) ::
   (20 ≤ 20) ::
   (2 ≤ 6) ::
   (20 ≤ 20) ::
   (2 ≤ 4) ::
   (20 ≤ 20) ::
   (2 ≤ 2) ::
   (20 ≤ 20) ::
   (32 ≤ 32) ::
   (32 ≤ 100000000) ::
   (decide (how > (0 : Int)) = true) ::
   (32 ≤ 32) ::
   (32 ≤ 100000000) ::
   (32 ≤ 32) ::
   (32 ≤ 100000000) ::
   (2 ≤ 20) ::
   (20 ≤ 20) ::
   (2 ≤ 18) ::
   (20 ≤ 20) ::
   (4 ≤ 16) ::
   (20 ≤ 20) ::
   (4 ≤ 12) ::
   (20 ≤ 20) ::
   (2 ≤ 8) ::
   (20 ≤ 20) ::
   (2 ≤ 6) ::
   (20 ≤ 20) ::
   (2 ≤ 4) ::
   (20 ≤ 20) ::
   (2 ≤ 2) ::
   (20 ≤ 20) ::
   (32 ≤ 32) ::
   (32 ≤ 100000000) ::
   (32 ≤ 32) ::
   (32 ≤ 100000000) ::
   (32 ≤ 32) ::
   (32 ≤ 100000000) ::
   (2 ≤ 20) ::
   (20 ≤ 20) ::
   (2 ≤ 18) ::
   (20 ≤ 20) ::
   (4 ≤ 16) ::
   (20 ≤ 20) ::
   (4 ≤ 12) ::
   (20 ≤ 20) ::
   (2 ≤ 8) ::
   (20 ≤ 20) ::
   (2 ≤ 6) ::
   (20 ≤ 20) ::
   (2 ≤ 4) ::
   (20 ≤ 20) ::
   (2 ≤ 2) ::
   (20 ≤ 20) ::
   (32 ≤ 32) ::
   (32 ≤ 100000000) ::
   rp 4 ((how == (2 : Int)) = false) (
   (decide (tmW (0 : Int) later < (7200 : Int)) = false) :: []))))) := by kernel_rfl

set_option maxRecDepth 100000 in
theorem natLives_s2 (how : Int) (later : Int) : outT kTT [(93, { br := [(16, true)], ob := [(4, 5)] }),
   (11, { op := [(3, 5, .br false), (3, 9, .br false), (3, 13, .br false), (13, 6, .br true)], gd := [(3, 3, false), (3, 4, false), (3, 7, false), (3, 8, false), (3, 11, false), (3, 12, false), (13, 3, true), (13, 4, true), (13, 5, true)], br := [(25, false), (34, true)], ob := [(15, 2)] }),
   (35, { ob := [(1, 5), (1, 6)] }),
   (64, { ob := [(1, 5)] })] Try.prog 11 [AV.val (Value.int IntKind.i64 how), AV.val (Value.int IntKind.i64 later)] [] 0 =
   some (AV.val (Value.bool (true == decide (later < (7200 : Int)))), [], 9644,
   rp 3 (decide (how < (0 : Int)) = false) (
   rp 3 (decide (how > (2 : Int)) = false) (
   rp 3 (decide (later < (0 : Int)) = false) (
   (decide (later > (8000 : Int)) = false) ::
   (32 ≤ 32) ::
   (32 ≤ 100000000) ::
   (32 ≤ 32) ::
   (32 ≤ 100000000) ::
   (2 ≤ 20) ::
   (20 ≤ 20) ::
   (2 ≤ 18) ::
   (20 ≤ 20) ::
   (4 ≤ 16) ::
   (20 ≤ 20) ::
   (4 ≤ 12) ::
   (20 ≤ 20) ::
   (2 ≤ 8) ::
   (20 ≤ 20) ::
   (2 ≤ 6) ::
   (20 ≤ 20) ::
   (2 ≤ 4) ::
   (20 ≤ 20) ::
   (2 ≤ 2) ::
   (20 ≤ 20) ::
   (true = true) ::
   (32 ≤ 32) ::
   (32 ≤ 100000000) ::
   (decide (how > (0 : Int)) = true) ::
   (32 ≤ 32) ::
   (32 ≤ 100000000) ::
   (32 ≤ 32) ::
   (32 ≤ 100000000) ::
   (2 ≤ 20) ::
   (20 ≤ 20) ::
   (2 ≤ 18) ::
   (20 ≤ 20) ::
   (4 ≤ 16) ::
   (20 ≤ 20) ::
   (4 ≤ 12) ::
   (20 ≤ 20) ::
   (2 ≤ 8) ::
   (20 ≤ 20) ::
   (2 ≤ 6) ::
   (20 ≤ 20) ::
   (2 ≤ 4) ::
   (20 ≤ 20) ::
   (2 ≤ 2) ::
   (20 ≤ 20) ::
   rp 2 (true = true) (
   (32 ≤ 32) ::
   (32 ≤ 100000000) ::
   (32 ≤ 32) ::
   (32 ≤ 100000000) ::
   (32 ≤ 32) ::
   (32 ≤ 100000000) ::
   (2 ≤ 20) ::
   (20 ≤ 20) ::
   (2 ≤ 18) ::
   (20 ≤ 20) ::
   (4 ≤ 16) ::
   (20 ≤ 20) ::
   (4 ≤ 12) ::
   (20 ≤ 20) ::
   (2 ≤ 8) ::
   (20 ≤ 20) ::
   (2 ≤ 6) ::
   (20 ≤ 20) ::
   (2 ≤ 4) ::
   (20 ≤ 20) ::
   (2 ≤ 2) ::
   (20 ≤ 20) ::
   (true = true) ::
   (32 ≤ 32) ::
   (32 ≤ 100000000) ::
   rp 2 ((how == (2 : Int)) = true) (
   (32 ≤ 32) ::
   (32 ≤ 100000000) ::
   (32 ≤ 32) ::
   (32 ≤ 100000000) ::
   (2 ≤ 20) ::
   (20 ≤ 20) ::
   (2 ≤ 18) ::
   (20 ≤ 20) ::
   (4 ≤ 16) ::
   (20 ≤ 20) ::
   (4 ≤ 12) ::
   (20 ≤ 20) ::
   (2 ≤ 8) ::
   (20 ≤ 20) ::
   (2 ≤ 6) ::
   (20 ≤ 20) ::
   (2 ≤ 4) ::
   (20 ≤ 20) ::
   (2 ≤ 2) ::
   (20 ≤ 20) ::
   rp 2 (true = true) (
   (32 ≤ 32) ::
   (32 ≤ 100000000) ::
   rp 2 ((how == (2 : Int)) = true) (
   (decide (tmW (0 : Int) later < (7200 : Int)) = true) :: [])))))))) := by kernel_rfl

set_option maxRecDepth 100000 in
theorem natLives_l2 (how : Int) (later : Int) : outS kTT [(9583000093, { br := [(16, false)], ob := [(4, 5)] }),
   (11, { op := [(3, 5, .br false), (3, 9, .br false), (3, 13, .br false), (13, 6, .br true)], gd := [(3, 3, false), (3, 4, false), (3, 7, false), (3, 8, false), (3, 11, false), (3, 12, false), (13, 3, true), (13, 4, true), (13, 5, true)], br := [(25, false), (34, true)], ob := [(15, 2)] }),
   (35, { ob := [(1, 5), (1, 6)] }),
   (64, { ob := [(1, 5)] })] Try.prog 11 [AV.val (Value.int IntKind.i64 how), AV.val (Value.int IntKind.i64 later)] [] 0 =
   some (AV.val (Value.bool (false == decide (later < (7200 : Int)))), [], 9640,
   rp 3 (decide (how < (0 : Int)) = false) (
   rp 3 (decide (how > (2 : Int)) = false) (
   rp 3 (decide (later < (0 : Int)) = false) (
   (decide (later > (8000 : Int)) = false) ::
   (32 ≤ 32) ::
   (32 ≤ 100000000) ::
   (32 ≤ 32) ::
   (32 ≤ 100000000) ::
   (2 ≤ 20) ::
   (20 ≤ 20) ::
   (2 ≤ 18) ::
   (20 ≤ 20) ::
   (4 ≤ 16) ::
   (20 ≤ 20) ::
   (4 ≤ 12) ::
   (20 ≤ 20) ::
   (2 ≤ 8) ::
   (20 ≤ 20) ::
   (2 ≤ 6) ::
   (20 ≤ 20) ::
   (2 ≤ 4) ::
   (20 ≤ 20) ::
   (2 ≤ 2) ::
   (20 ≤ 20) ::
   (32 ≤ 32) ::
   (32 ≤ 100000000) ::
   (decide (how > (0 : Int)) = true) ::
   (32 ≤ 32) ::
   (32 ≤ 100000000) ::
   (32 ≤ 32) ::
   (32 ≤ 100000000) ::
   (2 ≤ 20) ::
   (20 ≤ 20) ::
   (2 ≤ 18) ::
   (20 ≤ 20) ::
   (4 ≤ 16) ::
   (20 ≤ 20) ::
   (4 ≤ 12) ::
   (20 ≤ 20) ::
   (2 ≤ 8) ::
   (20 ≤ 20) ::
   (2 ≤ 6) ::
   (20 ≤ 20) ::
   (2 ≤ 4) ::
   (20 ≤ 20) ::
   (2 ≤ 2) ::
   (20 ≤ 20) ::
   (32 ≤ 32) ::
   (32 ≤ 100000000) ::
   (32 ≤ 32) ::
   (32 ≤ 100000000) ::
   (32 ≤ 32) ::
   (32 ≤ 100000000) ::
   (2 ≤ 20) ::
   (20 ≤ 20) ::
   (2 ≤ 18) ::
   (20 ≤ 20) ::
   (4 ≤ 16) ::
   (20 ≤ 20) ::
   (4 ≤ 12) ::
   (20 ≤ 20) ::
   (2 ≤ 8) ::
   (20 ≤ 20) ::
   (2 ≤ 6) ::
   (20 ≤ 20) ::
   (2 ≤ 4) ::
   (20 ≤ 20) ::
   (2 ≤ 2) ::
   (20 ≤ 20) ::
   (32 ≤ 32) ::
   (32 ≤ 100000000) ::
   rp 2 ((how == (2 : Int)) = true) (
   (32 ≤ 32) ::
   (32 ≤ 100000000) ::
   (32 ≤ 32) ::
   (32 ≤ 100000000) ::
   (2 ≤ 20) ::
   (20 ≤ 20) ::
   (2 ≤ 18) ::
   (20 ≤ 20) ::
   (4 ≤ 16) ::
   (20 ≤ 20) ::
   (4 ≤ 12) ::
   (20 ≤ 20) ::
   (2 ≤ 8) ::
   (20 ≤ 20) ::
   (2 ≤ 6) ::
   (20 ≤ 20) ::
   (2 ≤ 4) ::
   (20 ≤ 20) ::
   (2 ≤ 2) ::
   (20 ≤ 20) ::
   (32 ≤ 32) ::
   (32 ≤ 100000000) ::
   rp 2 ((how == (2 : Int)) = true) (
   (decide (tmW (0 : Int) later < (7200 : Int)) = false) :: [])))))) := by kernel_rfl
end Go.Proofs.Ytecmagdefllihaa
