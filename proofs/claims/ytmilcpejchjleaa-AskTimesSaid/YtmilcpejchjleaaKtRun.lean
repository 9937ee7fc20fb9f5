/- A law of chapter 23, reckoned on each of its ways. (Printed by wip/tools/gen.py from wip/sym/XSKt.lean.) -/
import Derived.Test.YtmilcpejchjleaaAn
import Derived.Test.YtmilcpejchjleaaRp
namespace Go.Proofs.Ytmilcpejchjleaa
open Go.RowKit

set_option maxRecDepth 100000 in
theorem askTimes_a1 (at0 : Int) (later : Int) : outT kN [(18, { op := [(3, 5, .br true)], gd := [(3, 3, true), (3, 4, true)] })] Try.prog 18 [AV.val (Value.int IntKind.i64 at0), AV.val (Value.int IntKind.i64 later)] [] 0 =
   some (AV.val (Value.bool true), [], 18,
   rp 3 (decide (at0 < (0 : Int)) = true) ( [])) := by kernel_rfl

set_option maxRecDepth 100000 in
theorem askTimes_a2 (at0 : Int) (later : Int) : outT kN [(18, { op := [(3, 5, .br false), (3, 9, .br true)], gd := [(3, 3, false), (3, 4, false), (3, 7, true), (3, 8, true)] })] Try.prog 18 [AV.val (Value.int IntKind.i64 at0), AV.val (Value.int IntKind.i64 later)] [] 0 =
   some (AV.val (Value.bool true), [], 18,
   rp 3 (decide (at0 < (0 : Int)) = false) (
   rp 3 (decide (at0 > (549755813888 : Int)) = true) ( []))) := by kernel_rfl

set_option maxRecDepth 100000 in
theorem askTimes_b1 (at0 : Int) (later : Int) : outT kN [(18, { op := [(3, 5, .br false), (3, 9, .br false), (3, 13, .br true)], gd := [(3, 3, false), (3, 4, false), (3, 7, false), (3, 8, false), (3, 11, true), (3, 12, true)] })] Try.prog 18 [AV.val (Value.int IntKind.i64 at0), AV.val (Value.int IntKind.i64 later)] [] 0 =
   some (AV.val (Value.bool true), [], 18,
   rp 3 (decide (at0 < (0 : Int)) = false) (
   rp 3 (decide (at0 > (549755813888 : Int)) = false) (
   rp 3 (decide (later < (0 : Int)) = true) ( [])))) := by kernel_rfl

set_option maxRecDepth 100000 in
theorem askTimes_b2 (at0 : Int) (later : Int) : outT kN [(18, { op := [(3, 5, .br false), (3, 9, .br false), (3, 13, .br false)], gd := [(3, 3, false), (3, 4, false), (3, 7, false), (3, 8, false), (3, 11, false), (3, 12, false)], br := [(27, true)] })] Try.prog 18 [AV.val (Value.int IntKind.i64 at0), AV.val (Value.int IntKind.i64 later)] [] 0 =
   some (AV.val (Value.bool true), [], 18,
   rp 3 (decide (at0 < (0 : Int)) = false) (
   rp 3 (decide (at0 > (549755813888 : Int)) = false) (
   rp 3 (decide (later < (0 : Int)) = false) (
   (decide (later > (100 : Int)) = true) :: [])))) := by kernel_rfl

set_option maxRecDepth 100000 in
theorem askTimes_soon (at0 : Int) (later : Int) : outS kN [(90, { ob := [(1, 2)] }),
   (26, { op := [(1, 5, .br false), (1, 10, .br false)], gd := [(1, 3, false), (1, 4, false), (1, 7, false), (1, 8, false), (1, 9, false)] }),
   (89, { op := [(1, 12, .br true)], gd := [(1, 5, true), (1, 6, true), (1, 7, true), (1, 8, true), (1, 9, true), (1, 10, true), (1, 11, true)] }),
   (55, { br := [(21, false)], ob := [(6, 2), (9, 6)] }),
   (37, { ob := [(1, 5)] }),
   (18, { op := [(3, 5, .br false), (3, 9, .br false), (3, 13, .br false)], gd := [(3, 3, false), (3, 4, false), (3, 7, false), (3, 8, false), (3, 11, false), (3, 12, false)], br := [(27, false), (65, true)], ob := [(7, 4)] }),
   (369000076, { br := [(16, false)], ob := [(4, 5)] })] Try.prog 18 [AV.val (Value.int IntKind.i64 at0), AV.val (Value.int IntKind.i64 later)] [] 0 =
   some (AV.val (Value.bool true), [], 1064,
   rp 3 (decide (at0 < (0 : Int)) = false) (
   rp 3 (decide (at0 > (549755813888 : Int)) = false) (
   rp 3 (decide (later < (0 : Int)) = false) (
   (decide (later > (100 : Int)) = false) ::
   rp 8 (decide (IntKind.wrap IntKind.i64 (at0 + later) ≥ at0) = true) (
   (decide (IntKind.wrap IntKind.u64 (IntKind.wrap IntKind.u64 (IntKind.wrap IntKind.i64 (at0 + later)) - IntKind.wrap IntKind.u64 at0) ≥ (5 : Int)) = false) ::
   rp 8 (decide (IntKind.wrap IntKind.i64 (at0 + later) ≥ at0) = true) (
   (decide (IntKind.wrap IntKind.u64 (IntKind.wrap IntKind.u64 (IntKind.wrap IntKind.i64 (at0 + later)) - IntKind.wrap IntKind.u64 at0) ≥ (5 : Int)) = false) ::
   rp 3 (decide (IntKind.wrap IntKind.i64 (at0 + later) < (0 : Int)) = false) (
   rp 4 (decide (IntKind.wrap IntKind.i64 (at0 + later) > (1099511627776 : Int)) = false) (
   (decide (later < (5 : Int)) = true) :: [])))))))) := by kernel_rfl

set_option maxRecDepth 100000 in
theorem askTimes_late (at0 : Int) (later : Int) : outT kN [(76, { br := [(16, true)], ob := [(4, 5)] }),
   (90, { ob := [(1, 2)] }),
   (89, { op := [(1, 12, .br true)], gd := [(1, 5, true), (1, 6, true), (1, 7, true), (1, 8, true), (1, 9, true), (1, 10, true), (1, 11, true)] }),
   (55, { br := [(21, true)], ob := [(6, 2), (9, 6)] }),
   (18, { op := [(3, 5, .br false), (3, 9, .br false), (3, 13, .br false)], gd := [(3, 3, false), (3, 4, false), (3, 7, false), (3, 8, false), (3, 11, false), (3, 12, false)], br := [(27, false), (65, false)] })] Try.prog 18 [AV.val (Value.int IntKind.i64 at0), AV.val (Value.int IntKind.i64 later)] [] 0 =
   some (AV.val (Value.bool true), [], 624,
   rp 3 (decide (at0 < (0 : Int)) = false) (
   rp 3 (decide (at0 > (549755813888 : Int)) = false) (
   rp 3 (decide (later < (0 : Int)) = false) (
   (decide (later > (100 : Int)) = false) ::
   rp 8 (decide (IntKind.wrap IntKind.i64 (at0 + later) ≥ at0) = true) (
   (decide (IntKind.wrap IntKind.u64 (IntKind.wrap IntKind.u64 (IntKind.wrap IntKind.i64 (at0 + later)) - IntKind.wrap IntKind.u64 at0) ≥ (5 : Int)) = true) ::
   rp 8 (decide (IntKind.wrap IntKind.i64 (at0 + later) ≥ at0) = true) (
   (decide (IntKind.wrap IntKind.u64 (IntKind.wrap IntKind.u64 (IntKind.wrap IntKind.i64 (at0 + later)) - IntKind.wrap IntKind.u64 at0) ≥ (5 : Int)) = true) ::
   (decide (later < (5 : Int)) = false) :: [])))))) := by kernel_rfl
end Go.Proofs.Ytmilcpejchjleaa
