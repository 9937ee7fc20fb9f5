/- Small letters, reckoned. (Printed by wip/tools/gen.py from wip/sym/XSNa.lean.) -/
import Derived.Test.YtmilcpejchjleaaNa
namespace Go.Proofs.Ytmilcpejchjleaa
open Go.RowKit

set_option maxRecDepth 100000 in
theorem small_lo (z : Int) : outT kN [(122, { op := [(1, 5, .br false)], gd := [(1, 3, false), (1, 4, false)] })] Try.prog 122 [AV.val (Value.int IntKind.u8 z)] [] 0 =
   some (AV.val (Value.int IntKind.u8 z), [], 9,
   rp 3 (decide (z ≥ (65 : Int)) = false) ( [])) := by kernel_rfl

set_option maxRecDepth 100000 in
theorem small_hi (z : Int) : outT kN [(122, { op := [(1, 5, .br true)], gd := [(1, 3, true), (1, 4, true)], br := [(8, false)] })] Try.prog 122 [AV.val (Value.int IntKind.u8 z)] [] 0 =
   some (AV.val (Value.int IntKind.u8 z), [], 9,
   rp 3 (decide (z ≥ (65 : Int)) = true) (
   (decide (z ≤ (90 : Int)) = false) :: [])) := by kernel_rfl

set_option maxRecDepth 100000 in
theorem small_up (z : Int) : outT kN [(122, { op := [(1, 5, .br true)], gd := [(1, 3, true), (1, 4, true)], br := [(8, true)] })] Try.prog 122 [AV.val (Value.int IntKind.u8 z)] [] 0 =
   some (AV.val (Value.int IntKind.u8 (IntKind.wrap IntKind.u8 (IntKind.wrap IntKind.u8 (z - (65 : Int)) + (97 : Int)))), [], 11,
   rp 3 (decide (z ≥ (65 : Int)) = true) (
   (decide (z ≤ (90 : Int)) = true) :: [])) := by kernel_rfl
end Go.Proofs.Ytmilcpejchjleaa
